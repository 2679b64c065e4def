import Derived.Test.YtehjjpbpdfnnfaaGreatDoorM06
namespace Go.Tz
open Go Go.AL Go.Proofs
noncomputable def rnB (f : FuncId) (ds : List D) (d : D) : Bool := match rn f ds with
 | some e => dB e d
 | none => false
theorem rnB_ok {f : FuncId} {ds : List D} {d : D} (h : rnB f ds d = true) : PC Pr GG f ds d := by
 unfold rnB at h
 split at h
 ·rename_i e he
  rw [← dB_eq _ _ h]; exact rn_ok he
 ·cases h
def amL : Option Nat → Nat → List D
 | none, _ => nmD 0 0 0 0 0
 | some p, m => nmD (if p = 0 then 1 else if p = 2 then -1 else 0) 0 (if p = 1 then 1 else if p = 3 then -1 else 0) 0 m
abbrev amD (p : Option Nat) (m : Nat) : D := .agg (amL p m)
theorem mul75 {p m : Nat} (hp : p < 4) (hm : m ≤ 12) : PC Pr GG 75 [amD (some p) 0, amD (some 0) m] (.tup [amD (some p) m, iD 0]) := by
 have h : ((List.range 4).all fun p => (List.range 13).all fun m => rnB 75 [amD (some p) 0, amD (some 0) m] (.tup [amD (some p) m, iD 0])) = true := by kernel_rfl
 exact rnB_ok (List.all_eq_true.1 (List.all_eq_true.1 h p (List.mem_range.2 hp)) m (List.mem_range.2 (by omega)))
theorem mul93 {p m : Nat} (hp : p < 4) (hm : m ≤ 12) : PC Pr GG 93 [amD (some p) 0, amD (some 0) m] (.tup [amD (some p) m, iD 0]) := by
 have h : ((List.range 4).all fun p => (List.range 13).all fun m => rnB 93 [amD (some p) 0, amD (some 0) m] (.tup [amD (some p) m, iD 0])) = true := by kernel_rfl
 exact rnB_ok (List.all_eq_true.1 (List.all_eq_true.1 h p (List.mem_range.2 hp)) m (List.mem_range.2 (by omega)))
theorem root78 {m : Nat} (hm : m ≤ 12) : PC Pr GG 78 [iD m] (.tup [amD (some 0) m, iD 0]) := by
 have h : ((List.range 13).all fun m : Nat => rnB 78 [iD m] (.tup [amD (some 0) m, iD 0])) = true := by kernel_rfl
 exact rnB_ok (List.all_eq_true.1 h m (List.mem_range.2 (by omega)))
theorem root92 {m : Nat} (hm : m ≤ 12) : PC Pr GG 92 [iD m] (.tup [amD (some 0) m, iD 0]) := by
 have h : ((List.range 13).all fun m : Nat => rnB 92 [iD m] (.tup [amD (some 0) m, iD 0])) = true := by kernel_rfl
 exact rnB_ok (List.all_eq_true.1 h m (List.mem_range.2 (by omega)))
theorem omega165 {q : Nat} (hq : q < 40) : PC Pr GG 165 [iD (2 * q : Nat)] (amD (some (q % 4)) 0) := by
 have h : ((List.range 40).all fun q : Nat => rnB 165 [iD (2 * q : Nat)] (amD (some (q % 4)) 0)) = true := by kernel_rfl
 exact rnB_ok (List.all_eq_true.1 h q (List.mem_range.2 hq))
theorem omega94 {q : Nat} (hq : q < 8) : PC Pr GG 94 [iD (2 * q : Nat)] (amD (some (q % 4)) 0) := by
 have h : ((List.range 8).all fun q : Nat => rnB 94 [iD (2 * q : Nat)] (amD (some (q % 4)) 0)) = true := by kernel_rfl
 exact rnB_ok (List.all_eq_true.1 h q (List.mem_range.2 hq))
end Go.Tz
namespace Go.Tz
open Go Go.AL Go.Proofs Go.Ma
theorem xa_all : ((List.range 4096).all fun k => (List.range 12).all fun i => if k.testBit i then (k ^^^ 2 ^ i) + 2 ^ i == k else k ^^^ 2 ^ i == k + 2 ^ i) = true := by kernel_rfl
theorem xa_ok {k i : Nat} (hk : k < 4096) (hi : i < 12) : if k.testBit i then (k ^^^ 2 ^ i) + 2 ^ i = k else k ^^^ 2 ^ i = k + 2 ^ i := by
 have := List.all_eq_true.1 (List.all_eq_true.1 xa_all k (List.mem_range.2 hk)) i (List.mem_range.2 hi)
 split at this
 ·rename_i h; rw [if_pos h]; simpa using this
 ·rename_i h; rw [if_neg h]; simpa using this
theorem shl_all : ((List.range 12).all fun i => decide (ishl .i64 (isub .i64 1 (imul .i64 2 1)) (i : Int) = -((2 ^ i : Nat) : Int)) && decide (ishl .i64 (isub .i64 1 (imul .i64 2 0)) (i : Int) = ((2 ^ i : Nat) : Int))) = true := by kernel_rfl
theorem pow_i {i : Nat} (hi : i < 12) : 2 ^ i ≤ 2048 := Nat.pow_le_pow_right (by decide) (show i ≤ 11 by omega)
theorem flk_step {k i : Nat} (hk : k < 4096) (hi : i < 12) : iadd .i64 (k : Int) (ishl .i64 (isub .i64 1 (imul .i64 2 (if k.testBit i then 1 else 0))) (i : Int)) = ((k ^^^ 2 ^ i : Nat) : Int) := by
 have h := List.all_eq_true.1 shl_all i (List.mem_range.2 hi)
 simp only [Bool.and_eq_true, decide_eq_true_eq] at h
 obtain ⟨g1, g2⟩ := h
 have hx := xa_ok hk hi
 have hp := pow_i hi
 by_cases hb : k.testBit i = true
 ·rw [if_pos hb] at hx ⊢
  rw [g1]; clear g1 g2
  generalize 2 ^ i = p at hx hp ⊢
  rw [iadd_eq (by omega) (by omega)]
  omega
 ·rw [if_neg hb] at hx ⊢
  rw [g2]; clear g1 g2
  generalize 2 ^ i = p at hx hp ⊢
  rw [iadd_eq (by omega) (by omega)]
  omega
theorem mod_xor (X i : Nat) : X % 2 ^ (i + 1) = X % 2 ^ i ^^^ (if X.testBit i then 2 ^ i else 0) := by
 refine Nat.eq_of_testBit_eq fun j => ?_
 rw [Nat.testBit_xor, Nat.testBit_mod_two_pow, Nat.testBit_mod_two_pow]
 by_cases e : j = i
 ·subst e
  cases h : X.testBit j <;> simp
 ·have h1 : (if X.testBit i then 2 ^ i else 0).testBit j = false := by
   split
   ·rw [Nat.testBit_two_pow]; simp; omega
   ·exact Nat.zero_testBit j
  rw [h1]
  have : (j < i + 1) ↔ (j < i) := by omega
  simp [this]
abbrev flk (X k i : Nat) : Nat := k ^^^ (X % 2 ^ i)
abbrev fln (P X Z k i : Nat) : Nat := P + pop i (X &&& Z) + 2 * pop i (Z &&& k)
theorem flk_bit (X k i : Nat) : (flk X k i).testBit i = k.testBit i := by
 rw [Nat.testBit_xor, Nat.testBit_mod_two_pow]; simp
theorem pop_le : ∀ (k n : Nat), pop k n ≤ k
 | 0, _ => Nat.le_refl _
 | k + 1, n => by
  have := pop_le k n
  simp only [pop]
  cases n.testBit k <;> simp <;> omega
theorem ph_nf {w : Nat} (hw : w ≤ 12) {X Z P k : Nat} (hX : X < 2 ^ w) (hZ : Z < 2 ^ w) (hk : k < 2 ^ w) : phE (nf (mk w X Z P)) k = fln P X Z k w % 4 := by
 have hp : 2 ^ w ≤ 4096 := Nat.pow_le_pow_right (by decide) hw
 rw [nf_mk]
 unfold phE
 have h1 := vec_bt (X := X) (Z := Z) (X' := k) (Z' := 0) (by omega) (by omega)
 rw [Nat.mul_zero, Nat.add_zero] at h1
 dsimp only
 rw [h1]
 obtain ⟨d, hd⟩ : ∃ d, 12 = w + d := ⟨12 - w, by omega⟩
 have e1 : pop 12 (X &&& Z) = pop w (X &&& Z) := by rw [hd, pop_stop (Nat.and_lt_two_pow X hZ)]
 have e2 : pop 12 (Z &&& k) = pop w (Z &&& k) := by rw [hd, pop_stop (Nat.and_lt_two_pow Z hk)]
 rw [e1, e2]
 unfold fln
 by_cases h : pop w (Z &&& k) % 2 = 1
 ·rw [decide_eq_true h]; show (_ + 2 * 1) % 4 = _; omega
 ·rw [decide_eq_false h]; show (_ + 2 * 0) % 4 = _; omega
theorem chk175 : chkFn Tryz.f175 = true := by kernel_rfl
theorem flipped175m {w X Z P k : Nat} (hw : w ≤ 12) (hX : X < 2 ^ w) (hZ : Z < 2 ^ w) (hP : P < 4) (hk : k < 2 ^ w) : PC Pr GG 175 [(mk w X Z P).d, iD k] (.tup [iD (k ^^^ X : Nat), iD (fln P X Z k w % 4 : Nat)]) := by
 have hp : 2 ^ w ≤ 4096 := Nat.pow_le_pow_right (by decide) hw
 refine pc_walk pok Tryz.func175 chk175 ?_
 conv => whnf
 repeat' first | ((first | refine LookP.mk _ rfl ?_ | refine ShlP.mk _ (by first | (simp only [List.set, over, List.take, List.drop, List.append_eq, List.nil_append, List.cons_append, List.length]; rfl) | rfl) ?_ | refine And.intro (by first | assumption | exact ⟨by kernel_rfl, rfl⟩ | decide | omega | exact ⟨rfl, by decide, by simp only [List.length_map, Nat.zero_add]; omega⟩) ?_ | refine HpP.force ?_); conv => whnf) | (intro t ht; cases t <;> conv => whnf)
 refine for_use pok (fun i => ⟨[(1, .d (iD (flk X k i : Nat))), (2, .ptr 0 4 0 0), (6, .d (iD (fln P X Z k i : Nat))), (7, .d (iD i))], [(0, some (.arr 4 [[.d (iD w), .d (iD X), .d (iD Z), .d (iD P)]]))], 1⟩) (w) (fun _ => True) (trivial) ?_ (by kernel_rfl) ?_ ?_
 ·refine keep_env (by first | exact Nat.zero_le _ | exact Nat.le_of_ble_eq_true rfl) ?_ ?_ trivial
  ·repeat' first | exact trivial | refine ⟨⟨by first | rfl | assumption | exact congrArg (fun n : Nat => AV.d (iD n)) (show k = flk X k 0 by unfold flk; rw [Nat.pow_zero, Nat.mod_one, Nat.xor_zero]) | exact congrArg (fun n : Nat => AV.d (iD n)) (show P = fln P X Z k 0 from rfl), rfl⟩, ?_⟩
  ·repeat' first | exact trivial | refine ⟨⟨ltB rfl, _, rfl, by first | rfl | assumption, by first | exact below1 rfl | exact below_dblk _ _ _ | exact below_arr rfl⟩, ?_⟩
 ·intro i A_i h_i I_i N_i
  have e_i : iadd .i64 (i : Int) 1 = ((i + 1 : Nat) : Int) := iadd_nat (by first | omega | (simp at *; omega))
  have hi12 : i < 12 := by omega
  have hkl : flk X k i < 4096 := Nat.lt_of_lt_of_le (Nat.xor_lt_two_pow hk (Nat.lt_of_le_of_lt (Nat.mod_le _ _) hX)) hp
  have hbv : iand .i64 (ishr .i64 (flk X k i : Nat) (i : Int)) 1 = if (flk X k i).testBit i then 1 else 0 := bit_nat (by omega) (by omega)
  have hst := flk_step hkl hi12
  have hmx := mod_xor X i
  have hk1 : flk X k (i + 1) = flk X k i ^^^ (if X.testBit i then 2 ^ i else 0) := by unfold flk; rw [hmx, Nat.xor_assoc]
  have hl := letter_c (G := GG) w X Z P i (by omega)
  rw [letter_nat (by omega) (by omega) (by omega)] at hl
  have p1 := pop_le i (X &&& Z)
  have p2 := pop_le i (Z &&& k)
  have hn1 : fln P X Z k (i + 1) = fln P X Z k i + (X.testBit i && Z.testBit i).toNat + 2 * (Z.testBit i && k.testBit i).toNat := by
   unfold fln
   simp only [pop, Nat.testBit_and]; omega
  rw [flk_bit] at hbv hst
  have hnl : fln P X Z k i ≤ 40 := by unfold fln; omega
  generalize flk X k i = kk at hbv hst hk1 hkl
  generalize fln P X Z k i = nn at hn1 hnl
  generalize flk X k (i + 1) = kk' at hk1 N_i
  generalize fln P X Z k (i + 1) = nn' at hn1 N_i
  have a0 : iadd .i64 (nn : Int) (imul .i64 2 0) = ((nn : Nat) : Int) := iadd_nat (b := 0) (by omega)
  have a1 : iadd .i64 (nn : Int) (imul .i64 2 1) = ((nn + 2 : Nat) : Int) := iadd_nat (b := 2) (by omega)
  have b0 : iadd .i64 (iadd .i64 (nn : Int) 1) (imul .i64 2 0) = ((nn + 1 : Nat) : Int) := by
   rw [show iadd .i64 (nn : Int) 1 = ((nn + 1 : Nat) : Int) from iadd_nat (b := 1) (by omega)]; exact iadd_nat (b := 0) (by omega)
  have b1 : iadd .i64 (iadd .i64 (nn : Int) 1) (imul .i64 2 1) = ((nn + 3 : Nat) : Int) := by
   rw [show iadd .i64 (nn : Int) 1 = ((nn + 1 : Nat) : Int) from iadd_nat (b := 1) (by omega)]; exact iadd_nat (b := 2) (by omega)
  cases hbx : X.testBit i <;> cases hbz : Z.testBit i <;> cases hbk : k.testBit i
  all_goals
   simp only [hbx, hbz, hbk, Bool.and_true, Bool.and_false, Bool.true_and, Bool.false_and, Bool.and_self, Bool.false_eq_true, if_true, if_false, Bool.toNat_true, Bool.toNat_false, Nat.xor_zero] at hl hbv hst hk1 hn1
   conv => whnf
   repeat (refine LookP.mk _ rfl ?_; conv => whnf)
   intro t ht
   cases t
   ·exfalso; first | (simp at ht; done) | (simp at ht; omega)
   conv => whnf
   repeat' first | ((first | refine LookP.mk _ rfl ?_ | refine ShlP.mk _ (by first | (simp only [List.set, over, List.take, List.drop, List.append_eq, List.nil_append, List.cons_append, List.length]; rfl) | rfl) ?_ | refine And.intro (by first | assumption | exact ⟨by kernel_rfl, rfl⟩ | decide | omega | exact ⟨rfl, by decide, by simp only [List.length_map, Nat.zero_add]; omega⟩) ?_ | rw [hbv] | refine pc_use hl ?_ | refine pc_head hl ?_ | refine beqT1 ?_ | refine beqF1 rfl ?_ | refine HpP.force ?_); conv => whnf) | (intro t ht; cases t <;> conv => whnf)
   refine N_i _ ?_ ?_
   ·first | trivial | assumption | omega
   ·refine keep_env (by first | exact Nat.zero_le _ | exact Nat.le_of_ble_eq_true rfl) ?_ ?_ trivial
    ·repeat' first | exact trivial | refine ⟨⟨by first | rfl | assumption | exact congrArg (fun n => AV.d (iD n)) e_i | exact congrArg (fun n => AV.d (iD n)) (hst.trans (congrArg (fun n : Nat => (n : Int)) hk1.symm)) | exact congrArg (fun n : Nat => AV.d (iD n)) hk1.symm | exact congrArg (fun n => AV.d (iD n)) (a0.trans (by omega)) | exact congrArg (fun n => AV.d (iD n)) (a1.trans (by omega)) | exact congrArg (fun n => AV.d (iD n)) (b0.trans (by omega)) | exact congrArg (fun n => AV.d (iD n)) (b1.trans (by omega)) | exact congrArg (fun n : Nat => AV.d (iD n)) (show nn = nn' by omega) | fail, rfl⟩, ?_⟩
    ·repeat' first | exact trivial | refine ⟨⟨ltB rfl, _, rfl, by first | rfl | assumption, by first | exact below1 rfl | exact below_dblk _ _ _ | exact below_arr rfl⟩, ?_⟩
 ·intro A_last I_last
  have e1 : flk X k w = k ^^^ X := by unfold flk; rw [Nat.mod_eq_of_lt hX]
  have e2 : (fln P X Z k w : Int).tmod 4 = ((fln P X Z k w % 4 : Nat) : Int) := by rw [Int.tmod_eq_emod_of_nonneg (by omega)]; rfl
  rw [← e1]
  conv => whnf
  repeat (refine LookP.mk _ rfl ?_; conv => whnf)
  intro t ht
  cases t
  rotate_left
  ·exfalso; first | (simp at ht; done) | (simp at ht; omega)
  conv => whnf
  repeat' first | ((first | refine LookP.mk _ rfl ?_ | refine ShlP.mk _ (by first | (simp only [List.set, over, List.take, List.drop, List.append_eq, List.nil_append, List.cons_append, List.length]; rfl) | rfl) ?_ | refine And.intro (by first | assumption | exact ⟨by kernel_rfl, rfl⟩ | decide | omega | exact ⟨rfl, by decide, by simp only [List.length_map, Nat.zero_add]; omega⟩) ?_ | rw [e2] | refine HpP.force ?_); conv => whnf) | (intro t ht; cases t <;> conv => whnf)
  exact fin rfl
end Go.Tz
namespace Go.Tz
open Go Go.AL Go.Proofs Go.Ma
theorem loopvc_mono {G : Nat → Option (List D)} {P : Program} {n b : Nat} {ms : List Nat} {c : Code} {st : St} {k k' : Exit → St → Prop} (h : LoopVC P G n b ms c st k) (hk : ∀ e s, k e s → k' e s) : LoopVC P G n b ms c st k' := by
 refine ⟨fun r => ?_⟩
 intro X C a hR hX
 cases h with
 | mk h =>
  refine wpIn_mono (h r X C a hR hX) ?_
  rintro e a' w' ⟨st', ms', C', rfl, ⟨hm, q⟩, h3, h4⟩
  exact ⟨st', ms', C', rfl, ⟨hm, hk _ _ q⟩, h3, h4⟩
theorem loop_mid {G : Nat → Option (List D)} {P : Program} {n b : Nat} {ms : List Nat} {c : Code} {st : St} {k : Exit → St → Prop} {ρ : Type} (J : ρ → St) (Q : ρ → Prop) (x : Exit) (h : LoopVC P G n b ms c st fun e s => ∃ r, Q r ∧ e = x ∧ Sub G b ms s (J r)) (hk : ∀ r, Q r → k x (J r)) : LoopVC P G n b ms c st k := by
 refine loopvc_sub (loopvc_mono h ?_)
 rintro e s ⟨r, q, rfl, hs⟩
 exact ⟨J r, hs, hk r q⟩
theorem par_vl {w : Nat} (hw : w ≤ 12) {l : List Ps} (hlen : l.length = w) (hv : ∀ q, q ∈ l → Vl w q) : ∀ n, (∀ j, j < w → Vl w ((parN l n).1 j)) ∧ (parN l n).2 ≤ w
 | 0 => ⟨fun j hj => by simp only [parN, List.getD_eq_getElem?_getD, List.getElem?_eq_getElem (show j < l.length by omega), Option.getD_some]; exact hv _ (List.getElem_mem _), Nat.zero_le _⟩
 | n + 1 => by
  obtain ⟨q1, q2⟩ := par_vl hw hlen hv n
  simp only [parN, parS]
  split
  ·exact ⟨q1, q2⟩
  ·rename_i f hf
   rw [hlen] at hf ⊢
   obtain ⟨p3, p2, _⟩ := fndO_some hf
   have p4 : (parN l n).2 < w := by omega
   exact ⟨clr_vl hw (swap_vl q1 p4 p2) p4, p4⟩
theorem chk174 : chkFn Tryz.f174 = true := by kernel_rfl
theorem parted174a {w : Nat} (hw : 1 ≤ w ∧ w ≤ 12) (l : List Ps) (t : Bool) (hlen : l.length = w) (hv : ∀ q, q ∈ l → Vl w q) : ACall Pr GG 174 [.d (stD w l t)] [] 0 fun v H _ => v = .sl 2 4 0 w w false ∧ H.get 2 = some (dblk 4 ((List.range w).map fun j => Ps.l ((parN l w).1 j))) := by
 refine fn_walk pok Tryz.func174 chk174 ?_
 conv => whnf
 repeat' first | ((first | refine LookP.mk _ rfl ?_ | refine ShlP.mk _ (by first | (simp only [List.set, over, List.take, List.drop, List.append_eq, List.nil_append, List.cons_append, List.length]; rfl) | rfl) ?_ | refine And.intro (by first | exact rows_len _ | exact ⟨rfl, by decide, by simp only [List.length_map, Nat.zero_add]; omega⟩ | assumption | exact ⟨by kernel_rfl, rfl⟩ | decide | omega | exact ⟨rfl, by decide, by simp only [List.length_map, Nat.zero_add]; omega⟩) ?_ | rw [rows_sc] | refine HpP.force ?_); conv => whnf) | (intro t ht; cases t <;> conv => whnf)
 have hpv := par_vl hw.2 hlen hv
 refine for_use pok (fun n => ⟨[(1, .ptr 0 2 0 0), (3, .sl 2 4 0 w w false), (4, .d (iD (parN l n).2)), (5, .d (iD n))], [(0, some (.arr 2 [[.d (iD w), .d (rowsD l t)]])), (2, some (dblk 4 ((List.range w).map fun j => Ps.l ((parN l n).1 j))))], 3⟩) (w) (fun _ => True) (trivial) ?_ (by kernel_rfl) ?_ ?_
 ·refine keep_env (by first | exact Nat.zero_le _ | exact Nat.le_of_ble_eq_true rfl) ?_ ?_ trivial
  ·repeat' first | exact trivial | refine ⟨⟨by first | rfl | assumption | (show AV.sl 2 4 0 (0 + _) (0 + _) false = _; simp [hlen]), rfl⟩, ?_⟩
  ·repeat' first | exact trivial | refine ⟨⟨ltB rfl, _, rfl, by first | rfl | assumption | (rw [← hlen]; exact congrArg some (psB_list l)), by first | exact below1 rfl | exact below_dblk _ _ _ | exact below_arr rfl⟩, ?_⟩
 ·intro n A_n h_n I_n N_n
  have e_n : iadd .i64 (n : Int) 1 = ((n + 1 : Nat) : Int) := iadd_nat (by first | omega | (simp at *; omega))
  obtain ⟨hvr, han⟩ := hpv n
  have hnx : parN l (n + 1) = parS w n (parN l n) := by rw [← hlen]; rfl
  unfold parS at hnx
  generalize hR : parN l n = s at hvr han hnx ⊢
  obtain ⟨rf, a⟩ := s
  dsimp only at hvr han hnx ⊢
  conv => whnf
  repeat (refine LookP.mk _ rfl ?_; conv => whnf)
  intro t ht
  cases t
  ·exfalso; first | (simp at ht; done) | (simp at ht; omega)
  conv => whnf
  repeat' first | ((first | refine LookP.mk _ rfl ?_ | refine ShlP.mk _ (by first | (simp only [List.set, over, List.take, List.drop, List.append_eq, List.nil_append, List.cons_append, List.length]; rfl) | rfl) ?_ | refine And.intro (by first | assumption | exact ⟨by kernel_rfl, rfl⟩ | decide | omega | exact ⟨rfl, by decide, by simp only [List.length_map, Nat.zero_add]; omega⟩) ?_ | refine HpP.force ?_); conv => whnf) | (intro t ht; cases t <;> conv => whnf)
  refine loop_mid (fun r : Int => ⟨[(1, .ptr 0 2 0 0), (3, .sl 2 4 0 w w false), (4, .d (iD a)), (5, .d (iD n)), (6, .d (iD r))], [(0, some (.arr 2 [[.d (iD w), .d (rowsD l t)]])), (2, some (dblk 4 ((List.range w).map fun j => Ps.l (rf j))))], 3⟩) (fun r => FND rf w (2 * n) a r) (.exit 2) ?_ ?_
  ·refine loop_use2 (σ := { p : Nat × Int // (p.2 = -1 ∧ a ≤ p.1 ∧ p.1 ≤ w ∧ ∀ j, a ≤ j → j < p.1 → bitB (rf j) (2 * n : Nat) = false) ∨ ∃ f : Nat, p.2 = f ∧ p.1 = f + 1 ∧ a ≤ f ∧ f < w ∧ bitB (rf f) (2 * n : Nat) = true ∧ ∀ j, a ≤ j → j < f → bitB (rf j) (2 * n : Nat) = false })
    (fun s => ⟨[(1, .ptr 0 2 0 0), (3, .sl 2 4 0 w w false), (4, .d (iD a)), (5, .d (iD n)), (6, .d (iD s.1.2)), (7, .d (iD s.1.1))], [(0, some (.arr 2 [[.d (iD w), .d (rowsD l t)]])), (2, some (dblk 4 ((List.range w).map fun j => Ps.l (rf j))))], 3⟩) (fun s => if s.1.2 < 0 then w + 1 - s.1.1 else 0) ⟨(a, -1), .inl ⟨rfl, Nat.le_refl _, han, fun j h1 h2 => by omega⟩⟩ ?_ (by kernel_rfl) ?_
   ·refine keep_env (by first | exact Nat.zero_le _ | exact Nat.le_of_ble_eq_true rfl) ?_ ?_ trivial
    ·repeat' first | exact trivial | refine ⟨⟨by first | rfl | assumption, rfl⟩, ?_⟩
    ·repeat' first | exact trivial | refine ⟨⟨ltB rfl, _, rfl, by first | rfl | assumption, by first | exact below1 rfl | exact below_dblk _ _ _ | exact below_arr rfl⟩, ?_⟩
   ·rintro ⟨⟨i, r⟩, hir⟩ A hA
    dsimp only at hir hA ⊢
    rcases hir with ⟨rfl, h1, h2, h3⟩ | ⟨f, rfl, rfl, h1, h2, h3, h4⟩
    ·have e1 : iadd .i64 (i : Int) 1 = ((i + 1 : Nat) : Int) := iadd_nat (b := 1) (by omega)
     rcases Nat.lt_or_ge i w with hi | hge
     rotate_left
     ·obtain rfl : i = w := by omega
      conv => whnf
      repeat (refine LookP.mk _ rfl ?_; conv => whnf)
      intro t ht
      cases t
      rotate_left
      ·exfalso; first | (simp at ht; done) | (simp at ht; omega)
      conv => whnf
      repeat' first | ((first | refine LookP.mk _ rfl ?_ | refine ShlP.mk _ (by first | (simp only [List.set, over, List.take, List.drop, List.append_eq, List.nil_append, List.cons_append, List.length]; rfl) | rfl) ?_ | refine And.intro (by first | assumption | exact ⟨by kernel_rfl, rfl⟩ | decide | omega | exact ⟨rfl, by decide, by simp only [List.length_map, Nat.zero_add]; omega⟩) ?_ | refine HpP.force ?_); conv => whnf) | (intro t ht; cases t <;> conv => whnf)
      refine ⟨-1, .inl ⟨rfl, h3⟩, rfl, ?_⟩
      refine keep_env (by first | exact Nat.zero_le _ | exact Nat.le_of_ble_eq_true rfl) ?_ ?_ trivial
      ·repeat' first | exact trivial | refine ⟨⟨by first | rfl | assumption, rfl⟩, ?_⟩
      ·repeat' first | exact trivial | refine ⟨⟨ltB rfl, _, rfl, by first | rfl | assumption, by first | exact below1 rfl | exact below_dblk _ _ _ | exact below_arr rfl⟩, ?_⟩
     have hb := bitB_even (rf i) n
     conv => whnf
     repeat (refine LookP.mk _ rfl ?_; conv => whnf)
     intro t ht
     cases t
     ·exfalso; first | (simp at ht; done) | (simp at ht; omega)
     conv => whnf
     repeat' first | ((first | refine LookP.mk _ (by first | rfl | exact get_rw (f := fun j => Ps.l (rf j)) hi) ?_ | refine ShlP.mk _ (by first | (simp only [List.set, over, List.take, List.drop, List.append_eq, List.nil_append, List.cons_append, List.length]; rfl) | rfl) ?_ | refine And.intro (by first | exact ⟨Int.natCast_nonneg _, by omega⟩ | assumption | exact ⟨by kernel_rfl, rfl⟩ | decide | omega | exact ⟨rfl, by decide, by simp only [List.length_map, Nat.zero_add]; omega⟩) ?_ | refine HpP.force ?_); conv => whnf) | (intro t ht; cases t <;> conv => whnf)
     ·exact absurd ht (by decide)
     ·have hbf : bitB (rf i) (2 * n : Nat) = false := by
       rw [hb]; exact decide_eq_false (by unfold bitI; simpa using ht)
      refine hA _ ⟨(i + 1, -1), .inl ⟨rfl, by show a ≤ i + 1; omega, hi, fun j a1 a2 => ?_⟩⟩ ?_ (by show (if (-1 : Int) < 0 then w + 1 - (i + 1) else 0) < if (-1 : Int) < 0 then w + 1 - i else 0; rw [if_pos (by decide), if_pos (by decide)]; omega)
      ·have a2 : j < i + 1 := a2
       by_cases e : j = i
       ·subst e; exact hbf
       ·exact h3 j a1 (by omega)
      ·refine keep_env (by first | exact Nat.zero_le _ | exact Nat.le_of_ble_eq_true rfl) ?_ ?_ trivial
       ·repeat' first | exact trivial | refine ⟨⟨by first | rfl | assumption | exact congrArg (fun n => AV.d (iD n)) e1, rfl⟩, ?_⟩
       ·repeat' first | exact trivial | refine ⟨⟨ltB rfl, _, rfl, by first | rfl | assumption, by first | exact below1 rfl | exact below_dblk _ _ _ | exact below_arr rfl⟩, ?_⟩
     ·have hbt : bitB (rf i) (2 * n : Nat) = true := by
       rw [hb]; exact decide_eq_true (by unfold bitI; simpa using ht)
      refine hA _ ⟨(i + 1, i), .inr ⟨i, rfl, rfl, h1, hi, hbt, fun j a1 a2 => h3 j a1 a2⟩⟩ ?_ (by show (if (i : Int) < 0 then w + 1 - (i + 1) else 0) < if (-1 : Int) < 0 then w + 1 - i else 0; rw [if_neg (by omega), if_pos (by decide)]; omega)
      refine keep_env (by first | exact Nat.zero_le _ | exact Nat.le_of_ble_eq_true rfl) ?_ ?_ trivial
      ·repeat' first | exact trivial | refine ⟨⟨by first | rfl | assumption | exact congrArg (fun n => AV.d (iD n)) e1, rfl⟩, ?_⟩
      ·repeat' first | exact trivial | refine ⟨⟨ltB rfl, _, rfl, by first | rfl | assumption, by first | exact below1 rfl | exact below_dblk _ _ _ | exact below_arr rfl⟩, ?_⟩
    ·conv => whnf
     repeat' first | ((first | refine LookP.mk _ rfl ?_ | refine ShlP.mk _ (by first | (simp only [List.set, over, List.take, List.drop, List.append_eq, List.nil_append, List.cons_append, List.length]; rfl) | rfl) ?_ | refine And.intro (by first | assumption | exact ⟨by kernel_rfl, rfl⟩ | decide | omega | exact ⟨rfl, by decide, by simp only [List.length_map, Nat.zero_add]; omega⟩) ?_ | refine HpP.force ?_); conv => whnf) | (intro t ht; cases t <;> conv => whnf)
     ·refine ⟨f, .inr ⟨f, rfl, h1, h2, h3, h4⟩, rfl, ?_⟩
      refine keep_env (by first | exact Nat.zero_le _ | exact Nat.le_of_ble_eq_true rfl) ?_ ?_ trivial
      ·repeat' first | exact trivial | refine ⟨⟨by first | rfl | assumption, rfl⟩, ?_⟩
      ·repeat' first | exact trivial | refine ⟨⟨ltB rfl, _, rfl, by first | rfl | assumption, by first | exact below1 rfl | exact below_dblk _ _ _ | exact below_arr rfl⟩, ?_⟩
     ·refine ⟨f, .inr ⟨f, rfl, h1, h2, h3, h4⟩, rfl, ?_⟩
      refine keep_env (by first | exact Nat.zero_le _ | exact Nat.le_of_ble_eq_true rfl) ?_ ?_ trivial
      ·repeat' first | exact trivial | refine ⟨⟨by first | rfl | assumption, rfl⟩, ?_⟩
      ·repeat' first | exact trivial | refine ⟨⟨ltB rfl, _, rfl, by first | rfl | assumption, by first | exact below1 rfl | exact below_dblk _ _ _ | exact below_arr rfl⟩, ?_⟩
     ·exfalso; simp at ht; omega
  ·intro r hr
   have hfo := fnd_O hr
   rcases hfo with ⟨rfl, hfo⟩ | ⟨f, rfl, hf1, hf2, hfo⟩
   ·rw [hfo] at hnx
    dsimp only at hnx
    conv => whnf
    repeat' first | ((first | refine LookP.mk _ rfl ?_ | refine ShlP.mk _ (by first | (simp only [List.set, over, List.take, List.drop, List.append_eq, List.nil_append, List.cons_append, List.length]; rfl) | rfl) ?_ | refine And.intro (by first | assumption | exact ⟨by kernel_rfl, rfl⟩ | decide | omega | exact ⟨rfl, by decide, by simp only [List.length_map, Nat.zero_add]; omega⟩) ?_ | refine HpP.force ?_); conv => whnf) | (intro t ht; cases t <;> conv => whnf)
    ·exact absurd ht (by decide)
    ·refine N_n _ ?_ ?_
     ·first | trivial | assumption | omega
     ·refine keep_env (by first | exact Nat.zero_le _ | exact Nat.le_of_ble_eq_true rfl) ?_ ?_ trivial
      ·repeat' first | exact trivial | refine ⟨⟨by first | rfl | assumption | exact congrArg (fun n => AV.d (iD n)) e_n | (rw [hnx]; rfl), rfl⟩, ?_⟩
      ·repeat' first | exact trivial | refine ⟨⟨ltB rfl, _, rfl, by first | rfl | assumption | (rw [hnx]; rfl), by first | exact below1 rfl | exact below_dblk _ _ _ | exact below_arr rfl⟩, ?_⟩
   ·rw [hfo] at hnx
    dsimp only at hnx
    have haN : a < w := by omega
    have e6 : iadd .i64 (a : Int) 1 = ((a + 1 : Nat) : Int) := iadd_nat (b := 1) (by omega)
    conv => whnf
    repeat' first | ((first | (refine LookP.mk _ (by first | rfl | exact get_rw (f := fun j => Ps.l (rf j)) hf2 | exact get_rw (f := fun j => Ps.l (rf j)) haN | exact get_rwE (x := Ps.l (rf f)) hf2 (by split <;> rfl)) ?_) | refine ShlP.mk _ (by first | exact set_rw (x := [_, _, _, _]) haN | exact set_rw (x := [_, _, _, _]) hf2 | (simp only [List.set, over, List.take, List.drop, List.append_eq, List.nil_append, List.cons_append, List.length]; rfl) | rfl) ?_ | refine And.intro (by first | exact ⟨Int.natCast_nonneg _, by omega⟩ | assumption | exact ⟨by kernel_rfl, rfl⟩ | decide | omega | exact ⟨rfl, by decide, by simp only [List.length_map, Nat.zero_add]; omega⟩) ?_ | refine HpP.force ?_); conv => whnf) | (intro t ht; cases t <;> conv => whnf)
    ·have hgv := swap_vl hvr haN hf2
     have hsw : ∀ j, (if j = f then [iD (rf a).w, iD (rf a).x, iD (rf a).z, iD (rf a).p] else if j = a then [iD (rf f).w, iD (rf f).x, iD (rf f).z, iD (rf f).p] else Ps.l (rf j)) = Ps.l (clrR (swapF rf a f) a (2 * n) 0 j) := by
      intro j
      have e : clrR (swapF rf a f) a (2 * n) 0 j = swapF rf a f j := by simp [clrR]
      rw [e]
      unfold swapF
      by_cases j1 : j = f <;> by_cases j2 : j = a
      ·subst j1 j2; rw [if_pos rfl, if_pos rfl]; rfl
      ·rw [if_pos j1, if_neg j2, if_pos j1]; rfl
      ·rw [if_neg j1, if_pos j2, if_pos j2]; rfl
      ·rw [if_neg j1, if_neg j2, if_neg j2, if_neg j1]
     generalize swapF rf a f = g at hnx hgv hsw
     refine for_use pok (fun k => ⟨[(1, .ptr 0 2 0 0), (3, .sl 2 4 0 w w false), (4, .d (iD a)), (5, .d (iD n)), (8, .d (iD k))], [(0, some (.arr 2 [[.d (iD w), .d (rowsD l t)]])), (2, some (dblk 4 ((List.range w).map fun j => Ps.l (clrR g a (2 * n) k j))))], 3⟩) (w) (fun _ => True) (trivial) ?_ (by kernel_rfl) ?_ ?_
     ·refine keep_env (by first | exact Nat.zero_le _ | exact Nat.le_of_ble_eq_true rfl) ?_ ?_ trivial
      ·repeat' first | exact trivial | refine ⟨⟨by first | rfl | assumption, rfl⟩, ?_⟩
      ·repeat' first | exact trivial | refine ⟨⟨ltB rfl, _, rfl, by first | rfl | assumption | exact congrArg some (psB_congr hsw), by first | exact below1 rfl | exact below_dblk _ _ _ | exact below_arr rfl⟩, ?_⟩
     ·intro k A_k h_k I_k N_k
      have e_k : iadd .i64 (k : Int) 1 = ((k + 1 : Nat) : Int) := iadd_nat (by first | omega | (simp at *; omega))
      have hra := clrR_a g a (2 * n) k
      have hrk := clrR_ge g a (2 * n) k k (Nat.le_refl _)
      have hset := @clrR_set g a (2 * n) k
      have hsame := @clrR_same g a (2 * n) k
      have hb := bitB_even (g k) n
      have hgk := hgv k h_k
      have hga := hgv a haN
      rw [← hrk] at hgk hb
      rw [← hra] at hga
      have ht2 := mulS_c (G := GG) (clrR g a (2 * n) k k) (clrR g a (2 * n) k a) (by rw [vl_w hgk]; omega) (by rw [vl_w hgk, vl_w hga])
      rw [← hra, ← hrk] at hset
      rw [← hrk] at hsame
      generalize clrR g a (2 * n) k = r at hra hrk hset hsame hb ht2 hgk hga
      generalize hme : mulS (r k) (r a) = m at ht2 hset
      conv => whnf
      repeat (refine LookP.mk _ rfl ?_; conv => whnf)
      intro t ht
      cases t
      ·exfalso; first | (simp at ht; done) | (simp at ht; omega)
      conv => whnf
      repeat' first | ((first | refine LookP.mk _ (by first | rfl | exact get_rw (f := fun j => Ps.l (r j)) h_k | exact get_rw (f := fun j => Ps.l (r j)) haN) ?_ | refine ShlP.mk _ (by first | exact set_rw (x := [_, _, _, _]) h_k | (simp only [List.set, over, List.take, List.drop, List.append_eq, List.nil_append, List.cons_append, List.length]; rfl) | rfl) ?_ | refine And.intro (by first | exact ⟨Int.natCast_nonneg _, by omega⟩ | assumption | exact ⟨by kernel_rfl, rfl⟩ | decide | omega | exact ⟨rfl, by decide, by simp only [List.length_map, Nat.zero_add]; omega⟩) ?_ | refine pc_use ht2 ?_ | refine pc_head ht2 ?_ | refine HpP.force ?_); conv => whnf) | (intro t ht; cases t <;> conv => whnf)
      ·have hka : k = a := by simp at ht; omega
       have e : clrR g a (2 * n) (k + 1) = r := hsame fun q => q.1 hka
       refine N_k _ ?_ ?_
       ·first | trivial | assumption | omega
       ·refine keep_env (by first | exact Nat.zero_le _ | exact Nat.le_of_ble_eq_true rfl) ?_ ?_ trivial
        ·repeat' first | exact trivial | refine ⟨⟨by first | rfl | assumption | exact congrArg (fun n => AV.d (iD n)) e_k, rfl⟩, ?_⟩
        ·repeat' first | exact trivial | refine ⟨⟨ltB rfl, _, rfl, by first | rfl | assumption | (rw [e]; rfl), by first | exact below1 rfl | exact below_dblk _ _ _ | exact below_arr rfl⟩, ?_⟩
      ·have e : clrR g a (2 * n) (k + 1) = r := by
        refine hsame fun q => ?_
        rw [hb] at q
        have := of_decide_eq_true q.2
        unfold bitI at this
        rw [this] at ht; cases ht
       refine N_k _ ?_ ?_
       ·first | trivial | assumption | omega
       ·refine keep_env (by first | exact Nat.zero_le _ | exact Nat.le_of_ble_eq_true rfl) ?_ ?_ trivial
        ·repeat' first | exact trivial | refine ⟨⟨by first | rfl | assumption | exact congrArg (fun n => AV.d (iD n)) e_k, rfl⟩, ?_⟩
        ·repeat' first | exact trivial | refine ⟨⟨ltB rfl, _, rfl, by first | rfl | assumption | (rw [e]; rfl), by first | exact below1 rfl | exact below_dblk _ _ _ | exact below_arr rfl⟩, ?_⟩
      ·have hka : k ≠ a := by intro e; subst e; simp at *
       have e := hset hka (by rw [hb]; exact decide_eq_true (by unfold bitI; simpa using ht))
       have hblk : ∀ j, (if j = k then [iD m.w, iD m.x, iD m.z, iD m.p] else Ps.l (r j)) = Ps.l (clrR g a (2 * n) (k + 1) j) := by
        intro j
        rw [e]
        dsimp only
        split <;> rfl
       refine N_k _ ?_ ?_
       ·first | trivial | assumption | omega
       ·refine keep_env (by first | exact Nat.zero_le _ | exact Nat.le_of_ble_eq_true rfl) ?_ ?_ trivial
        ·repeat' first | exact trivial | refine ⟨⟨by first | rfl | assumption | exact congrArg (fun n => AV.d (iD n)) e_k, rfl⟩, ?_⟩
        ·repeat' first | exact trivial | refine ⟨⟨ltB rfl, _, rfl, by first | rfl | assumption | exact congrArg some (psB_congr hblk), by first | exact below1 rfl | exact below_dblk _ _ _ | exact below_arr rfl⟩, ?_⟩
     ·intro A_last I_last
      conv => whnf
      repeat (refine LookP.mk _ rfl ?_; conv => whnf)
      intro t ht
      cases t
      rotate_left
      ·exfalso; first | (simp at ht; done) | (simp at ht; omega)
      conv => whnf
      repeat' first | ((first | refine LookP.mk _ rfl ?_ | refine ShlP.mk _ (by first | (simp only [List.set, over, List.take, List.drop, List.append_eq, List.nil_append, List.cons_append, List.length]; rfl) | rfl) ?_ | refine And.intro (by first | assumption | exact ⟨by kernel_rfl, rfl⟩ | decide | omega | exact ⟨rfl, by decide, by simp only [List.length_map, Nat.zero_add]; omega⟩) ?_ | refine HpP.force ?_); conv => whnf) | (intro t ht; cases t <;> conv => whnf)
      refine N_n _ ?_ ?_
      ·first | trivial | assumption | omega
      ·refine keep_env (by first | exact Nat.zero_le _ | exact Nat.le_of_ble_eq_true rfl) ?_ ?_ trivial
       ·repeat' first | exact trivial | refine ⟨⟨by first | rfl | assumption | exact congrArg (fun n => AV.d (iD n)) e_n | (rw [hnx]; exact congrArg (fun n => AV.d (iD n)) e6) | (rw [hnx]; rfl), rfl⟩, ?_⟩
       ·repeat' first | exact trivial | refine ⟨⟨ltB rfl, _, rfl, by first | rfl | assumption | (rw [hnx]; rfl), by first | exact below1 rfl | exact below_dblk _ _ _ | exact below_arr rfl⟩, ?_⟩
    ·exfalso; simp at ht; exact absurd ht (Int.not_lt.2 (Int.natCast_nonneg _))
 ·intro A_last I_last
  conv => whnf
  repeat (refine LookP.mk _ rfl ?_; conv => whnf)
  intro t ht
  cases t
  rotate_left
  ·exfalso; first | (simp at ht; done) | (simp at ht; omega)
  conv => whnf
  repeat' first | ((first | refine LookP.mk _ rfl ?_ | refine ShlP.mk _ (by first | (simp only [List.set, over, List.take, List.drop, List.append_eq, List.nil_append, List.cons_append, List.length]; rfl) | rfl) ?_ | refine And.intro (by first | assumption | exact ⟨by kernel_rfl, rfl⟩ | decide | omega | exact ⟨rfl, by decide, by simp only [List.length_map, Nat.zero_add]; omega⟩) ?_ | refine HpP.force ?_); conv => whnf) | (intro t ht; cases t <;> conv => whnf)
  exact fin ⟨rfl, rfl⟩
theorem parted174 {w : Nat} (hw : 1 ≤ w ∧ w ≤ 12) (l : List Ps) (t : Bool) (hlen : l.length = w) (hv : ∀ q, q ∈ l → Vl w q) : PO Pr GG 174 [stD w l t] (.sl 0 4 0 w w false) [(0, some (dblk 4 ((List.range w).map fun j => Ps.l ((parN l w).1 j))))] 1 := by
 refine ⟨isFn_of Tryz.func174 chk174, acall_sub (parted174a hw l t hlen hv) ?_⟩
 rintro v H n ⟨rfl, hg⟩
 refine ⟨_, _, 1, ?_, rfl, rfl, rfl⟩
 first | refine ren_env [(0, 2)] ?_ ?_ ?_ trivial | refine ren_envB [(0, 2)] rfl rfl ?_ ?_ ?_ trivial
 ·repeat' first | exact trivial | refine ⟨⟨by first | rfl | assumption, rfl⟩, ?_⟩
 ·repeat' first | exact trivial | refine ⟨⟨ltB rfl, _, rfl, by first | rfl | assumption | exact get_ren rfl (by first | rfl | assumption | exact get_ren rfl hg) | exact get_ren rfl hg, by first | exact below1 rfl | exact below_dblk _ _ _ | exact below_arr rfl⟩, ?_⟩
 ·repeat' first | exact trivial | (refine And.intro ?_ ?_) | (exact fun _ => rfl) | (exact fun h => absurd h (Nat.ne_of_beq_eq_false rfl))
end Go.Tz
namespace Go.Tz
open Go Go.AL Go.Proofs Go.Ma
def tstB (q : Ps) (k : Nat) : Bool := decide (q.x ≠ 0) || decide (phE (nf q) k = 0)
def refT (w : Nat) (rf : Nat → Ps) (k i : Nat) : Bool := (List.range i).all fun j => tstB (rf j) k
theorem flipped175 {w k : Nat} (hw : w ≤ 12) {q : Ps} (hq : Vl w q) (hk : k < 2 ^ w) : PC Pr GG 175 [q.d, iD k] (.tup [iD (k ^^^ q.x.toNat : Nat), iD (phE (nf q) k : Nat)]) := by
 obtain ⟨X, Z, P, rfl, h1, h2, h3⟩ := hq
 rw [ph_nf hw h1 h2 hk]
 exact flipped175m hw h1 h2 h3 hk
theorem tst1 {x : Int} {p : Bool} (h : (x != 0) = true) : true = (true && (decide (x ≠ 0) || p)) := by
 have : x ≠ 0 := by simpa using h
 simp [this]
theorem tst2 {x : Int} {k : Nat} {p : Prop} (h : (x != 0) = false) (h2 : (((k ^^^ x.toNat : Nat) : Int) == (k : Int)) = false) : p := by
 have : x = 0 := by simpa using h
 subst this
 simp at h2
theorem tst3 {x : Int} {n : Nat} (h : (x != 0) = false) (h2 : ((n : Int) == 0) = false) : false = (true && (decide (x ≠ 0) || decide (n = 0))) := by
 have h3 : x = 0 := by simpa using h
 have h4 : n ≠ 0 := by simpa using h2
 simp [h3, h4]
theorem tst4 {x : Int} {n : Nat} (h2 : ((n : Int) == 0) = true) : true = (true && (decide (x ≠ 0) || decide (n = 0))) := by
 have h4 : n = 0 := by simpa using h2
 simp [h4]
theorem dB_congr {sz N : Nat} {f g : Nat → List D} (h : ∀ j, f j = g j) : Blk.arr sz (((List.range N).map f).map fun el => el.map AV.d) = dblk sz ((List.range N).map g) := by rw [funext h]; rfl
theorem dB_congrL {sz N : Nat} {f g : Nat → List D} (h : ∀ j, j < N → f j = g j) : Blk.arr sz (((List.range N).map f).map fun el => el.map AV.d) = dblk sz ((List.range N).map g) := by
 have e : (List.range N).map f = (List.range N).map g := List.map_congr_left fun j hj => h j (List.mem_range.1 hj)
 rw [e]; rfl
theorem knownB {b c : Bool} {k : Bool → Prop} (h : b = c) (hk : k c) : ∀ t, b = t → k t := fun t e => by
 have : c = t := h.symm.trans e
 exact this ▸ hk
def tgF (t : Bool) : Nat → Bool
 | 0 => t
 | _ + 1 => false
theorem amp_next {rf : Nat → Ps} {lst a i : Nat} : ampS lst ((List.range (min (i + 1) a)).map rf) = if i < a then dblS (ampS lst ((List.range (min i a)).map rf)) (rf i) else ampS lst ((List.range (min i a)).map rf) := by
 by_cases h : i < a
 ·rw [if_pos h, show min (i + 1) a = i + 1 by omega, show min i a = i by omega, List.range_succ, List.map_append]
  unfold ampS
  rw [List.foldl_append]; rfl
 ·rw [if_neg h, show min (i + 1) a = a by omega, show min i a = a by omega]
theorem chk91 : chkFn Tryz.f91 = true := by kernel_rfl
theorem amplitudes91a {w lst a : Nat} (hw : 1 ≤ w ∧ w ≤ 12) (l : List Ps) (t : Bool) (hlen : l.length = w) (hv : ∀ q, q ∈ l → Vl w q) {rf : Nat → Ps} (hrf : (parN l w).1 = rf) (ha : a ≤ w)
  (hlt : lst < 2 ^ w) (hT : refT w rf lst w = true) (hF : ∀ k, k < lst → refT w rf k w = false) (hx : ∀ j, j < w → ((rf j).x = 0 ↔ a ≤ j)) {L : List E} (hL : Good L) (hsup : Sup L lst) (hgen : ∀ j, j < w → Gen L (nf (rf j))) (hD : ∀ i, i ≤ a → Dbl L w lst (ampS lst ((List.range i).map rf)) ∧ (ampS lst ((List.range i).map rf)).2.length = 2 ^ i) :
  ACall Pr GG 91 [.d (stD w l t)] [] 0 fun v H _ => ∃ nm, v = .tup [.sl nm 1 0 (2 ^ w) (2 ^ w) true, .d (iD a)] ∧ H.get nm = some (dblk 1 ((List.range (2 ^ w)).map fun j => [iD ((ampS lst ((List.range a).map rf)).1 j)])) := by
 have hpt := parted174 hw l t hlen hv
 have hrv := (par_vl hw.2 hlen hv w).1
 rw [hrf] at hpt hrv
 have hp12 : 2 ^ w ≤ 4096 := Nat.pow_le_pow_right (by decide) hw.2
 have hsh : ishl .i64 1 (w : Int) = ((2 ^ w : Nat) : Int) := pow_nat (by omega)
 refine fn_walk pok Tryz.func91 chk91 ?_
 conv => whnf
 repeat' first | ((first | refine LookP.mk _ rfl ?_ | refine ShlP.mk _ (by first | (simp only [List.set, over, List.take, List.drop, List.append_eq, List.nil_append, List.cons_append, List.length]; rfl) | rfl) ?_ | refine And.intro (by first | assumption | exact ⟨by kernel_rfl, rfl⟩ | decide | omega | exact ⟨rfl, by decide, by simp only [List.length_map, Nat.zero_add]; omega⟩) ?_ | refine po_use hpt ?_ | refine HpP.force ?_); conv => whnf) | (intro t ht; cases t <;> conv => whnf)
 refine loop_mid (fun _ : Unit => ⟨[(1, .ptr 0 2 0 0), (4, .sl 1 4 0 w w false), (5, .d (iD lst))], [(0, some (.arr 2 [[.d (iD w), .d (rowsD l t)]])), (1, some (dblk 4 ((List.range w).map fun j => Ps.l (rf j))))], 2⟩) (fun _ => True) (.exit 0) ?_ ?_
 ·refine for_use pok (fun k => ⟨[(1, .ptr 0 2 0 0), (4, .sl 1 4 0 w w false), (5, .d (iD (if k = lst + 1 then (lst : Int) else -1))), (6, .d (iD k))], [(0, some (.arr 2 [[.d (iD w), .d (rowsD l t)]])), (1, some (dblk 4 ((List.range w).map fun j => Ps.l (rf j))))], 2⟩) ((lst + 1)) (fun _ => True) (trivial) ?_ (by kernel_rfl) ?_ ?_
  ·refine keep_env (by first | exact Nat.zero_le _ | exact Nat.le_of_ble_eq_true rfl) ?_ ?_ trivial
   ·repeat' first | exact trivial | refine ⟨⟨by first | rfl | assumption, rfl⟩, ?_⟩
   ·repeat' first | exact trivial | refine ⟨⟨ltB rfl, _, rfl, by first | rfl | assumption | (show some (Blk.ren _ (dblk 4 _)) = _; rw [ren_dblk]), by first | exact below1 rfl | exact below_dblk _ _ _ | exact below_arr rfl⟩, ?_⟩
  ·intro k A_k h_k I_k N_k
   have e_k : iadd .i64 (k : Int) 1 = ((k + 1 : Nat) : Int) := iadd_nat (by first | omega | (simp at *; omega))
   have e5 : (if k = lst + 1 then (lst : Int) else -1) = -1 := if_neg (by omega)
   rw [e5]
   conv => whnf
   repeat' first | ((first | refine LookP.mk _ rfl ?_ | refine ShlP.mk _ (by first | (simp only [List.set, over, List.take, List.drop, List.append_eq, List.nil_append, List.cons_append, List.length]; rfl) | rfl) ?_ | refine And.intro (by first | assumption | exact ⟨by kernel_rfl, rfl⟩ | decide | omega | exact ⟨rfl, by decide, by simp only [List.length_map, Nat.zero_add]; omega⟩) ?_ | rw [hsh] | refine HpP.force ?_); conv => whnf) | (intro t ht; cases t <;> conv => whnf)
   ·exact absurd ht (by simp only [decide_eq_false_iff_not]; omega)
   ·exact absurd ht (by decide)
   ·refine for_use pok (fun i => ⟨[(1, .ptr 0 2 0 0), (4, .sl 1 4 0 w w false), (5, .d (iD (-1))), (6, .d (iD k)), (7, .d (.bool (refT w rf k i))), (8, .d (iD i))], [(0, some (.arr 2 [[.d (iD w), .d (rowsD l t)]])), (1, some (dblk 4 ((List.range w).map fun j => Ps.l (rf j))))], 2⟩) (w) (fun _ => True) (trivial) ?_ (by kernel_rfl) ?_ ?_
    ·refine keep_env (by first | exact Nat.zero_le _ | exact Nat.le_of_ble_eq_true rfl) ?_ ?_ trivial
     ·repeat' first | exact trivial | refine ⟨⟨by first | rfl | assumption, rfl⟩, ?_⟩
     ·repeat' first | exact trivial | refine ⟨⟨ltB rfl, _, rfl, by first | rfl | assumption, by first | exact below1 rfl | exact below_dblk _ _ _ | exact below_arr rfl⟩, ?_⟩
    ·intro i A_i h_i I_i N_i
     have e_i : iadd .i64 (i : Int) 1 = ((i + 1 : Nat) : Int) := iadd_nat (by first | omega | (simp at *; omega))
     have hpre : refT w rf k (i + 1) = (refT w rf k i && tstB (rf i) k) := by
      unfold refT
      rw [List.range_succ, List.all_append]; simp
     have hfl := flipped175 hw.2 (hrv i h_i) (show k < 2 ^ w by omega)
     have htb : tstB (rf i) k = (decide ((rf i).x ≠ 0) || decide (phE (nf (rf i)) k = 0)) := rfl
     have hxx := (xv_nf hw.2 (hrv i h_i)).2.2
     generalize refT w rf k i = b at hpre
     cases b
     all_goals
      conv => whnf
      repeat (refine LookP.mk _ rfl ?_; conv => whnf)
      intro t ht
      cases t
      ·exfalso; first | (simp at ht; done) | (simp at ht; omega)
      conv => whnf
      repeat' first | ((first | refine LookP.mk _ (by first | rfl | exact get_rw (f := fun j => Ps.l (rf j)) h_i) ?_ | refine ShlP.mk _ (by first | (simp only [List.set, over, List.take, List.drop, List.append_eq, List.nil_append, List.cons_append, List.length]; rfl) | rfl) ?_ | refine And.intro (by first | exact ⟨Int.natCast_nonneg _, by omega⟩ | assumption | exact ⟨by kernel_rfl, rfl⟩ | decide | omega | exact ⟨rfl, by decide, by simp only [List.length_map, Nat.zero_add]; omega⟩) ?_ | refine pc_use hfl ?_ | refine pc_head hfl ?_ | refine HpP.force ?_); conv => whnf) | (intro t ht; cases t <;> conv => whnf)
      all_goals
       refine N_i _ ?_ ?_
       ·first | trivial | assumption | omega
       ·refine keep_env (by first | exact Nat.zero_le _ | exact Nat.le_of_ble_eq_true rfl) ?_ ?_ trivial
        ·repeat' first | exact trivial | refine ⟨⟨by first | rfl | assumption | exact congrArg (fun n => AV.d (iD n)) e_i | (refine congrArg (fun b => AV.d (.bool b)) ?_; rw [hpre, htb]; first | rfl | exact tst2 (by assumption) (by assumption) | exact tst3 (by assumption) (by assumption) | exact tst4 (by assumption) | exact tst1 (by assumption)), rfl⟩, ?_⟩
        ·repeat' first | exact trivial | refine ⟨⟨ltB rfl, _, rfl, by first | rfl | assumption, by first | exact below1 rfl | exact below_dblk _ _ _ | exact below_arr rfl⟩, ?_⟩
    ·intro A_last I_last
     have hTk : refT w rf k w = decide (k = lst) := by
      by_cases e : k = lst
      ·rw [e, hT]; simp
      ·rw [hF k (by omega)]; simp [e]
     have ek : iadd .i64 (k : Int) 1 = ((k + 1 : Nat) : Int) := e_k
     by_cases e : k = lst
     ·rw [decide_eq_true e] at hTk
      rw [hTk]
      conv => whnf
      repeat (refine LookP.mk _ rfl ?_; conv => whnf)
      intro t ht
      cases t
      rotate_left
      ·exfalso; first | (simp at ht; done) | (simp at ht; omega)
      conv => whnf
      repeat' first | ((first | refine LookP.mk _ rfl ?_ | refine ShlP.mk _ (by first | (simp only [List.set, over, List.take, List.drop, List.append_eq, List.nil_append, List.cons_append, List.length]; rfl) | rfl) ?_ | refine And.intro (by first | assumption | exact ⟨by kernel_rfl, rfl⟩ | decide | omega | exact ⟨rfl, by decide, by simp only [List.length_map, Nat.zero_add]; omega⟩) ?_ | refine HpP.force ?_); conv => whnf) | (intro t ht; cases t <;> conv => whnf)
      refine N_k _ ?_ ?_
      ·first | trivial | assumption | omega
      ·refine keep_env (by first | exact Nat.zero_le _ | exact Nat.le_of_ble_eq_true rfl) ?_ ?_ trivial
       ·repeat' first | exact trivial | refine ⟨⟨by first | rfl | assumption | exact congrArg (fun n => AV.d (iD n)) e_k | (rw [if_pos (show k + 1 = lst + 1 by omega)]; rw [← e]; rfl), rfl⟩, ?_⟩
       ·repeat' first | exact trivial | refine ⟨⟨ltB rfl, _, rfl, by first | rfl | assumption, by first | exact below1 rfl | exact below_dblk _ _ _ | exact below_arr rfl⟩, ?_⟩
     ·rw [decide_eq_false e] at hTk
      rw [hTk]
      conv => whnf
      repeat (refine LookP.mk _ rfl ?_; conv => whnf)
      intro t ht
      cases t
      rotate_left
      ·exfalso; first | (simp at ht; done) | (simp at ht; omega)
      conv => whnf
      repeat' first | ((first | refine LookP.mk _ rfl ?_ | refine ShlP.mk _ (by first | (simp only [List.set, over, List.take, List.drop, List.append_eq, List.nil_append, List.cons_append, List.length]; rfl) | rfl) ?_ | refine And.intro (by first | assumption | exact ⟨by kernel_rfl, rfl⟩ | decide | omega | exact ⟨rfl, by decide, by simp only [List.length_map, Nat.zero_add]; omega⟩) ?_ | refine HpP.force ?_); conv => whnf) | (intro t ht; cases t <;> conv => whnf)
      refine N_k _ ?_ ?_
      ·first | trivial | assumption | omega
      ·refine keep_env (by first | exact Nat.zero_le _ | exact Nat.le_of_ble_eq_true rfl) ?_ ?_ trivial
       ·repeat' first | exact trivial | refine ⟨⟨by first | rfl | assumption | exact congrArg (fun n => AV.d (iD n)) e_k | (rw [if_neg (show ¬ k + 1 = lst + 1 by omega)]; rfl), rfl⟩, ?_⟩
       ·repeat' first | exact trivial | refine ⟨⟨ltB rfl, _, rfl, by first | rfl | assumption, by first | exact below1 rfl | exact below_dblk _ _ _ | exact below_arr rfl⟩, ?_⟩
  ·intro A_last I_last
   rw [if_pos rfl]
   conv => whnf
   repeat' first | ((first | refine LookP.mk _ rfl ?_ | refine ShlP.mk _ (by first | (simp only [List.set, over, List.take, List.drop, List.append_eq, List.nil_append, List.cons_append, List.length]; rfl) | rfl) ?_ | refine And.intro (by first | assumption | exact ⟨by kernel_rfl, rfl⟩ | decide | omega | exact ⟨rfl, by decide, by simp only [List.length_map, Nat.zero_add]; omega⟩) ?_ | rw [hsh] | refine HpP.force ?_); conv => whnf) | (intro t ht; cases t <;> conv => whnf)
   ·refine ⟨(), trivial, rfl, ?_⟩
    refine keep_env (by first | exact Nat.zero_le _ | exact Nat.le_of_ble_eq_true rfl) ?_ ?_ trivial
    ·repeat' first | exact trivial | refine ⟨⟨by first | rfl | assumption, rfl⟩, ?_⟩
    ·repeat' first | exact trivial | refine ⟨⟨ltB rfl, _, rfl, by first | rfl | assumption, by first | exact below1 rfl | exact below_dblk _ _ _ | exact below_arr rfl⟩, ?_⟩
   ·refine ⟨(), trivial, rfl, ?_⟩
    refine keep_env (by first | exact Nat.zero_le _ | exact Nat.le_of_ble_eq_true rfl) ?_ ?_ trivial
    ·repeat' first | exact trivial | refine ⟨⟨by first | rfl | assumption, rfl⟩, ?_⟩
    ·repeat' first | exact trivial | refine ⟨⟨ltB rfl, _, rfl, by first | rfl | assumption, by first | exact below1 rfl | exact below_dblk _ _ _ | exact below_arr rfl⟩, ?_⟩
   ·exfalso; simp at ht; omega
 ·intro _ _
  obtain ⟨N, hN⟩ : ∃ N, N = 2 ^ w := ⟨_, rfl⟩
  rw [← hN] at hsh hlt hp12 ⊢
  conv => whnf
  repeat' first | ((first | refine LookP.mk _ rfl ?_ | refine ShlP.mk _ (by first | (simp only [List.set, over, List.take, List.drop, List.append_eq, List.nil_append, List.cons_append, List.length]; rfl) | rfl) ?_ | (refine And.intro (by first | exact ⟨Int.natCast_nonneg _, rfl, by show 8 * (((N : Nat) : Int)).toNat ≤ 281474976710656; rw [Int.toNat_natCast]; omega, by decide, by decide⟩ | assumption | exact ⟨by kernel_rfl, rfl⟩ | decide | omega | exact ⟨rfl, by decide, by simp only [List.length_map, Nat.zero_add]; omega⟩) ?_) | rw [hsh] | refine HpP.force ?_); conv => whnf) | (intro t ht; cases t <;> conv => whnf)
  have hrow : ∀ j, j < w → ((rf j).x == 0) = decide (a ≤ j) := fun j hj => by
   rw [Bool.eq_iff_iff, beq_iff_eq, decide_eq_true_eq]; exact hx j hj
  refine for_use pok (fun k => ⟨[(4, .sl 1 4 0 w w false), (5, .d (iD lst)), (11, .sl 2 1 0 N N true), (12, .d (iD k))], [(1, some (dblk 4 ((List.range w).map fun j => Ps.l (rf j)))), (2, some (dblk 1 ((List.range N).map fun j => [iD (if j < k then -1 else 0)])))], 3⟩) (N) (fun _ => True) (trivial) ?_ (by kernel_rfl) ?_ ?_
  ·refine keep_env (by first | exact Nat.zero_le _ | exact Nat.le_of_ble_eq_true rfl) ?_ ?_ trivial
   ·repeat' first | exact trivial | refine ⟨⟨by first | rfl | assumption, rfl⟩, ?_⟩
   ·repeat' first | exact trivial | refine ⟨⟨ltB rfl, _, rfl, by first | rfl | assumption | exact congrArg some (congrArg (Blk.arr 1) (by rw [Int.toNat_natCast, rep_map, List.map_map]; rfl)), by first | exact below1 rfl | exact below_dblk _ _ _ | exact below_arr rfl⟩, ?_⟩
  ·intro k A_k h_k I_k N_k
   have e_k : iadd .i64 (k : Int) 1 = ((k + 1 : Nat) : Int) := iadd_nat (by first | omega | (simp at *; omega))
   have hst : ∀ j, (if j = k then [iD (-1)] else [iD (if j < k then (-1 : Int) else 0)]) = [iD (if j < k + 1 then (-1 : Int) else 0)] := fun j => by
    by_cases e : j = k
    ·rw [if_pos e, if_pos (by omega)]
    ·rw [if_neg e]
     have : (j < k + 1) ↔ (j < k) := by omega
     simp only [this]
   conv => whnf
   repeat (refine LookP.mk _ rfl ?_; conv => whnf)
   intro t ht
   cases t
   ·exfalso; first | (simp at ht; done) | (simp at ht; omega)
   conv => whnf
   repeat' first | ((first | refine LookP.mk _ (by first | rfl | exact get_rw h_k) ?_ | refine ShlP.mk _ (by first | exact set_rw (x := [_]) h_k | (simp only [List.set, over, List.take, List.drop, List.append_eq, List.nil_append, List.cons_append, List.length]; rfl) | rfl) ?_ | refine And.intro (by first | exact ⟨Int.natCast_nonneg _, by omega⟩ | assumption | exact ⟨by kernel_rfl, rfl⟩ | decide | omega | exact ⟨rfl, by decide, by simp only [List.length_map, Nat.zero_add]; omega⟩) ?_ | refine HpP.force ?_); conv => whnf) | (intro t ht; cases t <;> conv => whnf)
   refine N_k _ ?_ ?_
   ·first | trivial | assumption | omega
   ·refine keep_env (by first | exact Nat.zero_le _ | exact Nat.le_of_ble_eq_true rfl) ?_ ?_ trivial
    ·repeat' first | exact trivial | refine ⟨⟨by first | rfl | assumption | exact congrArg (fun n => AV.d (iD n)) e_k, rfl⟩, ?_⟩
    ·repeat' first | exact trivial | refine ⟨⟨ltB rfl, _, rfl, by first | rfl | assumption | exact congrArg some (dB_congr hst), by first | exact below1 rfl | exact below_dblk _ _ _ | exact below_arr rfl⟩, ?_⟩
  ·intro A_last I_last
   have hst : ∀ j, j < N → (if j = lst then [iD 0] else [iD (if j < N then (-1 : Int) else 0)]) = [iD ((ampS lst ((List.range 0).map rf)).1 j)] := fun j hj => by
    show _ = [iD (if j = lst then (0 : Int) else -1)]
    by_cases e : j = lst
    ·rw [if_pos e, if_pos e]
    ·rw [if_neg e, if_neg e, if_pos hj]
   conv => whnf
   repeat (refine LookP.mk _ rfl ?_; conv => whnf)
   intro t ht
   cases t
   rotate_left
   ·exfalso; first | (simp at ht; done) | (simp at ht; omega)
   conv => whnf
   repeat' first | ((first | refine LookP.mk _ (by first | rfl | exact get_rw hlt) ?_ | refine ShlP.mk _ (by first | exact set_rw (x := [_]) hlt | (simp only [List.set, over, List.take, List.drop, List.append_eq, List.nil_append, List.cons_append, List.length]; rfl) | rfl) ?_ | refine And.intro (by first | exact ⟨Int.natCast_nonneg _, by omega⟩ | assumption | exact ⟨by kernel_rfl, rfl⟩ | decide | omega | exact ⟨rfl, by decide, by simp only [List.length_map, Nat.zero_add]; omega⟩) ?_ | refine HpP.force ?_); conv => whnf) | (intro t ht; cases t <;> conv => whnf)
   refine for_use pok (fun i => ⟨[(4, .sl 1 4 0 w w false), (11, .sl 2 1 0 N N true), (13, .sl 3 1 0 (ampS lst ((List.range (min i a)).map rf)).2.length (ampS lst ((List.range (min i a)).map rf)).2.length (decide (min i a = 0))), (14, .d (iD (min i a : Nat))), (15, .d (iD i))], [(1, some (dblk 4 ((List.range w).map fun j => Ps.l (rf j)))), (2, some (dblk 1 ((List.range N).map fun j => [iD ((ampS lst ((List.range (min i a)).map rf)).1 j)]))), (3, some (dblk 1 (numD (ampS lst ((List.range (min i a)).map rf)).2)))], 4⟩) (w) (fun _ => True) (trivial) ?_ (by kernel_rfl) ?_ ?_
   ·refine keep_env (by first | exact Nat.zero_le _ | exact Nat.le_of_ble_eq_true rfl) ?_ ?_ trivial
    ·repeat' first | exact trivial | refine ⟨⟨by first | rfl | assumption | (rw [Nat.zero_min]; rfl), rfl⟩, ?_⟩
    ·repeat' first | exact trivial | refine ⟨⟨ltB rfl, _, rfl, by first | rfl | assumption | (rw [Nat.zero_min]; exact congrArg some (dB_congrL hst)) | (rw [Nat.zero_min]; rfl), by first | exact below1 rfl | exact below_dblk _ _ _ | exact below_arr rfl⟩, ?_⟩
   ·intro i A_i h_i I_i N_i
    have e_i : iadd .i64 (i : Int) 1 = ((i + 1 : Nat) : Int) := iadd_nat (by first | omega | (simp at *; omega))
    have hnx := amp_next (rf := rf) (lst := lst) (a := a) (i := i)
    obtain ⟨hDi, hDl⟩ := hD (min i a) (Nat.min_le_right _ _)
    generalize ampS lst ((List.range (min (i + 1) a)).map rf) = s' at hnx N_i
    generalize ampS lst ((List.range (min i a)).map rf) = s at hnx hDi hDl ⊢
    by_cases hia : i < a
    ·rw [if_pos hia] at hnx
     have hxe : ((rf i).x == 0) = false := by rw [hrow i h_i]; exact decide_eq_false (by omega)
     have em : min i a = i := by omega
     have em1 : min (i + 1) a = i + 1 := by omega
     rw [em1] at N_i
     rw [em] at hDl ⊢
     conv => whnf
     repeat (refine LookP.mk _ rfl ?_; conv => whnf)
     intro t ht
     cases t
     ·exfalso; first | (simp at ht; done) | (simp at ht; omega)
     conv => whnf
     repeat' first | ((first | refine LookP.mk _ (by first | rfl | exact get_rw (f := fun j => Ps.l (rf j)) h_i) ?_ | refine ShlP.mk _ (by first | (simp only [List.set, over, List.take, List.drop, List.append_eq, List.nil_append, List.cons_append, List.length]; rfl) | rfl) ?_ | refine And.intro (by first | exact ⟨Int.natCast_nonneg _, by omega⟩ | assumption | exact ⟨by kernel_rfl, rfl⟩ | decide | omega | exact ⟨rfl, by decide, by simp only [List.length_map, Nat.zero_add]; omega⟩) ?_ | refine knownB hxe ?_ | refine HpP.force ?_); conv => whnf) | (intro t ht; cases t <;> conv => whnf)
     clear em em1
     generalize hT0 : decide (i = 0) = T
     have hT1 : decide (i + 1 = 0) = false := decide_eq_false (by omega)
     rw [hT1] at N_i
     have hM : s.2.length ≤ 2048 := by
      rw [hDl]
      exact Nat.pow_le_pow_right (by decide) (show i ≤ 11 by omega)
     have hM1 : 0 < s.2.length := by rw [hDl]; exact Nat.two_pow_pos i
     have hrun : ∀ j, Dbl L w lst ((s.2.reverse.take j).foldl (flpS (rf i)) s) ∧ ((s.2.reverse.take j).foldl (flpS (rf i)) s).2 = s.2 ++ (s.2.reverse.take j).map (· ^^^ (rf i).x.toNat) := fun j =>
      flp_run hw.2 hL (hrv i h_i) (hgen i h_i) hsup _ s hDi fun c hc => List.mem_reverse.1 (List.mem_of_mem_take hc)
     have hi1 : isub .i64 ((s.2.length : Nat) : Int) 1 = ((s.2.length : Nat) : Int) - 1 - ((0 : Nat) : Int) := by rw [isub_eq (by omega) (by omega)]; omega
     refine for_use pok (fun j => ⟨[(4, .sl 1 4 0 w w false), (11, .sl 2 1 0 N N true), (13, .sl 3 1 0 (s.2.length + j) (s.2.length + j) (tgF T j)), (14, .d (iD (i + 1 : Nat))), (15, .d (iD i)), (16, .d (iD (((s.2.length : Nat) : Int) - 1 - ((j : Nat) : Int))))], [(1, some (dblk 4 ((List.range w).map fun j => Ps.l (rf j)))), (2, some (dblk 1 ((List.range N).map fun q => [iD (((s.2.reverse.take j).foldl (flpS (rf i)) s).1 q)]))), (3, some (dblk 1 (numD ((s.2.reverse.take j).foldl (flpS (rf i)) s).2)))], 4⟩) (s.2.length) (fun _ => True) (trivial) ?_ (by kernel_rfl) ?_ ?_
     ·refine keep_env (by first | exact Nat.zero_le _ | exact Nat.le_of_ble_eq_true rfl) ?_ ?_ trivial
      ·repeat' first | exact trivial | refine ⟨⟨by first | rfl | assumption | exact congrArg (fun n => AV.d (iD n)) (iadd_nat (b := 1) (by omega)) | exact congrArg (fun n => AV.d (iD n)) hi1, rfl⟩, ?_⟩
      ·repeat' first | exact trivial | refine ⟨⟨ltB rfl, _, rfl, by first | rfl | assumption | rfl, by first | exact below1 rfl | exact below_dblk _ _ _ | exact below_arr rfl⟩, ?_⟩
     ·intro j A_j h_j I_j N_j
      have e_j : iadd .i64 (j : Int) 1 = ((j + 1 : Nat) : Int) := iadd_nat (by first | omega | (simp at *; omega))
      obtain ⟨hS, hSe⟩ := hrun j
      have hk : ((s.2.length : Nat) : Int) - 1 - ((j : Nat) : Int) = ((s.2.length - 1 - j : Nat) : Int) := by omega
      have hk1 : isub .i64 ((s.2.length - 1 - j : Nat) : Int) 1 = ((s.2.length : Nat) : Int) - 1 - ((j + 1 : Nat) : Int) := by rw [isub_eq (by omega) (by omega)]; omega
      have hjr : j < s.2.reverse.length := by rw [List.length_reverse]; exact h_j
      have hkl : s.2.length - 1 - j < s.2.length := by omega
      have hce : s.2.reverse[j] = s.2[s.2.length - 1 - j] := List.getElem_reverse hjr
      have hcm : s.2[s.2.length - 1 - j] ∈ s.2 := List.getElem_mem hkl
      have hstep : (s.2.reverse.take (j + 1)).foldl (flpS (rf i)) s = flpS (rf i) ((s.2.reverse.take j).foldl (flpS (rf i)) s) (s.2[s.2.length - 1 - j]) := by
       rw [take_snoc hjr, List.foldl_append, hce]; rfl
      have hfk : ((numD ((s.2.reverse.take j).foldl (flpS (rf i)) s).2).map fun el => el.map AV.d)[0 + ((s.2.length - 1 - j : Nat) : Int).toNat]? = some ([iD (s.2[s.2.length - 1 - j] : Nat)].map AV.d) := by
       rw [hSe, Int.toNat_natCast, Nat.zero_add]
       unfold numD
       rw [List.map_append, List.map_append, List.getElem?_append_left (by simpa using hkl)]
       simp [List.getElem?_eq_getElem hkl]
      have hcS : s.2[s.2.length - 1 - j] ∈ ((s.2.reverse.take j).foldl (flpS (rf i)) s).2 := by rw [hSe]; exact List.mem_append.2 (.inl hcm)
      have hfl0 : (numD ((s.2.reverse.take j).foldl (flpS (rf i)) s).2).length = s.2.length + j := by
       rw [hSe]; unfold numD; rw [List.length_map, List.length_append, List.length_map, List.length_take, List.length_reverse]; omega
      rw [hk]
      generalize s.2.length - 1 - j = k at hk hk1 hkl hce hcm hstep hfk hcS ⊢
      generalize s.2[k] = c at hce hcm hstep hfk hcS
      generalize (s.2.reverse.take (j + 1)).foldl (flpS (rf i)) s = S' at hstep N_j
      generalize (s.2.reverse.take j).foldl (flpS (rf i)) s = S at hS hSe hstep hfk hcS hfl0 ⊢
      obtain ⟨g, g1, g2, g3⟩ := hS.mem c hcS
      have hv4 := phE_lt g lst
      generalize phE g lst = v0 at g3 hv4
      have hcN := hS.lt c hcS
      have hfl := flipped175 hw.2 (hrv i h_i) hcN
      have hto : c ^^^ (rf i).x.toNat < N := by rw [hN]; exact Nat.xor_lt_two_pow hcN (xv_nf hw.2 (hrv i h_i)).2.1
      rw [← hN] at hcN
      have hn4 := phE_lt (nf (rf i)) c
      have hS' : ∀ q, (if q = c ^^^ (rf i).x.toNat then [iD ((v0 + phE (nf (rf i)) c) % 4 : Nat)] else [iD (S.1 q)]) = [iD (S'.1 q)] := fun q => by
       rw [hstep]
       show _ = [iD (if q = c ^^^ (rf i).x.toNat then (S.1 c + phE (nf (rf i)) c) % 4 else S.1 q)]
       by_cases e : q = c ^^^ (rf i).x.toNat
       ·rw [if_pos e, if_pos e, g3]; rfl
       ·rw [if_neg e, if_neg e]
      have hS2 : numD S'.2 = numD S.2 ++ [[iD (c ^^^ (rf i).x.toNat : Nat)]] := by
       rw [hstep]
       show numD (S.2 ++ [c ^^^ (rf i).x.toNat]) = _
       simp [numD]
      generalize phE (nf (rf i)) c = n at hfl hn4 hS'
      generalize c ^^^ (rf i).x.toNat = to at hfl hto hS' hS2
      have hadd : iadd .i64 (v0 : Int) (n : Int) = ((v0 + n : Nat) : Int) := iadd_nat (by omega)
      have hmod : ((v0 + n : Nat) : Int).tmod 4 = (((v0 + n) % 4 : Nat) : Int) := by rw [Int.tmod_eq_emod_of_nonneg (by omega)]; rfl
      have hgc : (fun q => [iD (S.1 q)]) c = [iD (v0 : Nat)] := by dsimp only; rw [g3]
      clear hstep g3
      generalize numD S.2 = F at hfk hfl0 hS2 ⊢
      generalize numD S'.2 = F' at hS2 N_j
      conv => whnf
      repeat (refine LookP.mk _ rfl ?_; conv => whnf)
      intro t ht
      cases t
      ·exfalso; first | (simp at ht; done) | (simp at ht; omega)
      conv => whnf
      repeat' first | ((first | refine LookP.mk _ (by first | rfl | exact hfk | exact get_rw (f := fun j => Ps.l (rf j)) h_i | exact get_rwE (x := [_]) hcN hgc | exact get_rw hto) ?_ | refine ShlP.mk _ (by first | exact set_rw (x := [_]) hto | (simp only [List.set, over, List.take, List.drop, List.append_eq, List.nil_append, List.cons_append, List.length]; rfl) | rfl) ?_ | (refine And.intro (by first | exact ⟨Int.natCast_nonneg _, by omega⟩ | exact Nat.le_refl _ | exact ⟨by rw [List.length_map]; exact hfl0, by decide, by show (2 * (s.2.length + j + 1) + 192) * 8 ≤ 281474976710656; omega⟩ | assumption | exact ⟨by kernel_rfl, rfl⟩ | decide | omega | exact ⟨rfl, by decide, by simp only [List.length_map, Nat.zero_add]; omega⟩) ?_) | refine pc_use hfl ?_ | refine pc_head hfl ?_ | rw [hadd] | rw [hmod] | rw [nbeq] | refine HpP.force ?_); conv => whnf) | (intro t ht; cases t <;> conv => whnf)
      refine N_j _ ?_ ?_
      ·first | trivial | assumption | omega
      ·first | refine ren_env [(3, 5)] ?_ ?_ ?_ trivial | refine ren_envB [(3, 5)] rfl rfl ?_ ?_ ?_ trivial
       ·repeat' first | exact trivial | refine ⟨⟨by first | rfl | assumption | exact congrArg (fun n => AV.d (iD n)) e_j | exact congrArg (fun n => AV.d (iD n)) hk1, rfl⟩, ?_⟩
       ·repeat' first | exact trivial | refine ⟨⟨ltB rfl, _, rfl, by first | rfl | assumption | exact get_ren rfl (by first | rfl | assumption | exact get_ren rfl (by rw [hS2]; exact congrArg some (dblk_snoc rfl)) | exact get_ren rfl (congrArg some (dB_congr hS')) | exact congrArg some (dB_congr hS')) | exact get_ren rfl (by rw [hS2]; exact congrArg some (dblk_snoc rfl)) | exact get_ren rfl (congrArg some (dB_congr hS')) | exact congrArg some (dB_congr hS'), by first | exact below1 rfl | exact below_dblk _ _ _ | exact below_arr rfl⟩, ?_⟩
       ·repeat' first | exact trivial | (refine And.intro ?_ ?_) | (exact fun _ => rfl) | (exact fun h => absurd h (Nat.ne_of_beq_eq_false rfl))
     ·intro A_last I_last
      have hlast := (hrun s.2.length).2
      have hrl : s.2.reverse.take s.2.length = s.2.reverse := List.take_of_length_le (by rw [List.length_reverse]; exact Nat.le_refl _)
      have hkm : ((s.2.length : Nat) : Int) - 1 - ((s.2.length : Nat) : Int) = -1 := by omega
      have hs' : s' = s.2.reverse.foldl (flpS (rf i)) s := hnx
      rw [hrl] at hlast ⊢
      rw [hkm]
      rw [← hs'] at hlast ⊢
      have hl2 : s'.2.length = s.2.length + s.2.length := by rw [hlast, List.length_append, List.length_map, List.length_reverse]
      have htg : tgF T s.2.length = false := by
       obtain ⟨m, hm⟩ : ∃ m, s.2.length = m + 1 := ⟨s.2.length - 1, by omega⟩
       rw [hm]; rfl
      rw [htg, ← hl2]
      conv => whnf
      repeat (refine LookP.mk _ rfl ?_; conv => whnf)
      intro t ht
      cases t
      rotate_left
      ·exfalso; first | (simp at ht; done) | (simp at ht; omega)
      conv => whnf
      repeat' first | ((first | refine LookP.mk _ rfl ?_ | refine ShlP.mk _ (by first | (simp only [List.set, over, List.take, List.drop, List.append_eq, List.nil_append, List.cons_append, List.length]; rfl) | rfl) ?_ | refine And.intro (by first | assumption | exact ⟨by kernel_rfl, rfl⟩ | decide | omega | exact ⟨rfl, by decide, by simp only [List.length_map, Nat.zero_add]; omega⟩) ?_ | refine HpP.force ?_); conv => whnf) | (intro t ht; cases t <;> conv => whnf)
      refine N_i _ ?_ ?_
      ·first | trivial | assumption | omega
      ·refine keep_env (by first | exact Nat.zero_le _ | exact Nat.le_of_ble_eq_true rfl) ?_ ?_ trivial
       ·repeat' first | exact trivial | refine ⟨⟨by first | rfl | assumption | exact congrArg (fun n => AV.d (iD n)) e_i, rfl⟩, ?_⟩
       ·repeat' first | exact trivial | refine ⟨⟨ltB rfl, _, rfl, by first | rfl | assumption, by first | exact below1 rfl | exact below_dblk _ _ _ | exact below_arr rfl⟩, ?_⟩
    ·rw [if_neg hia] at hnx
     subst hnx
     have hxe : ((rf i).x == 0) = true := by rw [hrow i h_i]; exact decide_eq_true (by omega)
     have em : min (i + 1) a = min i a := by omega
     rw [em] at N_i
     conv => whnf
     repeat (refine LookP.mk _ rfl ?_; conv => whnf)
     intro t ht
     cases t
     ·exfalso; first | (simp at ht; done) | (simp at ht; omega)
     conv => whnf
     repeat' first | ((first | refine LookP.mk _ (by first | rfl | exact get_rw (f := fun j => Ps.l (rf j)) h_i) ?_ | refine ShlP.mk _ (by first | (simp only [List.set, over, List.take, List.drop, List.append_eq, List.nil_append, List.cons_append, List.length]; rfl) | rfl) ?_ | refine And.intro (by first | exact ⟨Int.natCast_nonneg _, by omega⟩ | assumption | exact ⟨by kernel_rfl, rfl⟩ | decide | omega | exact ⟨rfl, by decide, by simp only [List.length_map, Nat.zero_add]; omega⟩) ?_ | refine knownB hxe ?_ | refine HpP.force ?_); conv => whnf) | (intro t ht; cases t <;> conv => whnf)
     refine N_i _ ?_ ?_
     ·first | trivial | assumption | omega
     ·refine keep_env (by first | exact Nat.zero_le _ | exact Nat.le_of_ble_eq_true rfl) ?_ ?_ trivial
      ·repeat' first | exact trivial | refine ⟨⟨by first | rfl | assumption | exact congrArg (fun n => AV.d (iD n)) e_i, rfl⟩, ?_⟩
      ·repeat' first | exact trivial | refine ⟨⟨ltB rfl, _, rfl, by first | rfl | assumption, by first | exact below1 rfl | exact below_dblk _ _ _ | exact below_arr rfl⟩, ?_⟩
   ·intro A_last I_last
    rw [show min w a = a by omega]
    conv => whnf
    repeat (refine LookP.mk _ rfl ?_; conv => whnf)
    intro t ht
    cases t
    rotate_left
    ·exfalso; first | (simp at ht; done) | (simp at ht; omega)
    conv => whnf
    repeat' first | ((first | refine LookP.mk _ rfl ?_ | refine ShlP.mk _ (by first | (simp only [List.set, over, List.take, List.drop, List.append_eq, List.nil_append, List.cons_append, List.length]; rfl) | rfl) ?_ | refine And.intro (by first | assumption | exact ⟨by kernel_rfl, rfl⟩ | decide | omega | exact ⟨rfl, by decide, by simp only [List.length_map, Nat.zero_add]; omega⟩) ?_ | refine HpP.force ?_); conv => whnf) | (intro t ht; cases t <;> conv => whnf)
    refine fin ⟨2, rfl, ?_⟩
    rfl
theorem amplitudes91 {w lst a : Nat} (hw : 1 ≤ w ∧ w ≤ 12) (l : List Ps) (t : Bool) (hlen : l.length = w) (hv : ∀ q, q ∈ l → Vl w q) {rf : Nat → Ps} (hrf : (parN l w).1 = rf) (ha : a ≤ w)
  (hlt : lst < 2 ^ w) (hT : refT w rf lst w = true) (hF : ∀ k, k < lst → refT w rf k w = false) (hx : ∀ j, j < w → ((rf j).x = 0 ↔ a ≤ j)) {L : List E} (hL : Good L) (hsup : Sup L lst) (hgen : ∀ j, j < w → Gen L (nf (rf j))) (hD : ∀ i, i ≤ a → Dbl L w lst (ampS lst ((List.range i).map rf)) ∧ (ampS lst ((List.range i).map rf)).2.length = 2 ^ i) :
  PO Pr GG 91 [stD w l t] (.tup [.sl 0 1 0 (2 ^ w) (2 ^ w) true, .d (iD a)]) [(0, some (dblk 1 ((List.range (2 ^ w)).map fun j => [iD ((ampS lst ((List.range a).map rf)).1 j)])))] 1 := by
 refine ⟨isFn_of Tryz.func91 chk91, acall_sub (amplitudes91a hw l t hlen hv hrf ha hlt hT hF hx hL hsup hgen hD) ?_⟩
 rintro v H n ⟨nm, rfl, hg⟩
 refine ⟨_, _, 1, ?_, rfl, rfl, rfl⟩
 first | refine ren_env [(0, nm)] ?_ ?_ ?_ trivial | refine ren_envB [(0, nm)] rfl rfl ?_ ?_ ?_ trivial
 ·repeat' first | exact trivial | refine ⟨⟨by first | rfl | assumption, rfl⟩, ?_⟩
 ·repeat' first | exact trivial | refine ⟨⟨ltB rfl, _, rfl, by first | rfl | assumption | exact get_ren rfl (by first | rfl | assumption | exact get_ren rfl hg) | exact get_ren rfl hg, by first | exact below1 rfl | exact below_dblk _ _ _ | exact below_arr rfl⟩, ?_⟩
 ·repeat' first | exact trivial | (refine And.intro ?_ ?_) | (exact fun _ => rfl) | (exact fun h => absurd h (Nat.ne_of_beq_eq_false rfl))
end Go.Tz
namespace Go.Tz
open Go Go.AL Go.Proofs Go.Ma
theorem chk19 : chkFn Tryz.f19 = true := by kernel_rfl
abbrev vcL (val : Nat → Option Nat) (m N : Nat) : List (List D) := (List.range N).map fun b => amL (val b) m
theorem vec_snoc {val : Nat → Option Nat} {m k : Nat} : vcL val m (k + 1) = vcL val m k ++ [amL (val k) m] := by
 unfold vcL
 rw [List.range_succ, List.map_append]; rfl
theorem vector19a {w lst a : Nat} {f : Nat → Int} (hw : 1 ≤ w ∧ w ≤ 12) (l : List Ps) (t : Bool) (ha : a ≤ 12) (hlt : lst < 2 ^ w) (h91 : PO Pr GG 91 [stD w l t] (.tup [.sl 0 1 0 (2 ^ w) (2 ^ w) true, .d (iD a)]) [(0, some (dblk 1 ((List.range (2 ^ w)).map fun j => [iD (f j)])))] 1)
  (hf : ∀ k, k < 2 ^ w → f k = -1 ∨ ∃ p : Nat, p < 4 ∧ f k = p) (h0 : f lst = 0) (h1 : ∀ k, k < lst → f k = -1) :
  ACall Pr GG 19 [.d (stD w l t)] [] 0 fun v H _ => ∃ nm, v = .sl nm 5 0 (2 ^ w) (2 ^ w) false ∧ H.get nm = some (dblk 5 (vcL (valS f) a (2 ^ w))) := by
 have hp12 : 2 ^ w ≤ 4096 := Nat.pow_le_pow_right (by decide) hw.2
 obtain ⟨N, hN⟩ : ∃ N, N = 2 ^ w := ⟨_, rfl⟩
 rw [← hN] at hlt h91 hf hp12 ⊢
 have hr := root92 ha
 refine fn_walk pok Tryz.func19 chk19 ?_
 conv => whnf
 repeat' first | ((first | refine LookP.mk _ rfl ?_ | refine ShlP.mk _ (by first | (simp only [List.set, over, List.take, List.drop, List.append_eq, List.nil_append, List.cons_append, List.length]; rfl) | rfl) ?_ | refine And.intro (by first | assumption | exact ⟨by kernel_rfl, rfl⟩ | decide | omega | exact ⟨rfl, by decide, by simp only [List.length_map, Nat.zero_add]; omega⟩) ?_ | refine po_use h91 ?_ | refine pc_use hr ?_ | refine pc_head hr ?_ | refine HpP.force ?_); conv => whnf) | (intro t ht; cases t <;> conv => whnf)
 refine for_use pok (fun k => ⟨[(3, .sl 1 1 0 N N true), (5, .ptr 2 5 0 0), (7, .d (iD (if k ≤ lst then -1 else 0))), (8, .sl 3 5 0 k k false), (9, .d (iD k))], [(1, some (dblk 1 ((List.range N).map fun j => [iD (f j)]))), (2, some (.arr 5 [(amL (some 0) a).map AV.d])), (3, some (dblk 5 (vcL (valS f) a k)))], 4⟩) (N) (fun _ => True) (trivial) ?_ (by kernel_rfl) ?_ ?_
 ·refine Sub.trans (sub_nil (t := 8) (S := 5) (Nat.zero_le _) rfl) ?_
  refine keep_env (by first | exact Nat.zero_le _ | exact Nat.le_of_ble_eq_true rfl) ?_ ?_ trivial
  ·repeat' first | exact trivial | refine ⟨⟨by first | rfl | assumption | (rw [if_pos (Nat.zero_le _)]; rfl), rfl⟩, ?_⟩
  ·repeat' first | exact trivial | refine ⟨⟨ltB rfl, _, rfl, by first | rfl | assumption | (show some (Blk.ren _ (dblk 1 _)) = _; rw [ren_dblk]), by first | exact below1 rfl | exact below_dblk _ _ _ | exact below_arr rfl⟩, ?_⟩
 ·intro k A_k h_k I_k N_k
  have e_k : iadd .i64 (k : Int) 1 = ((k + 1 : Nat) : Int) := iadd_nat (by first | omega | (simp at *; omega))
  have hvs := vec_snoc (val := valS f) (m := a) (k := k)
  have hvl : (vcL (valS f) a k).length = k := by simp
  have hq : (2 * (k + 1) + 192) * 40 ≤ 281474976710656 := by omega
  rcases hf k (by omega) with e | ⟨p, hp, e⟩
  ·have hv : valS f k = none := by unfold valS; rw [e]; rfl
   rw [hv] at hvs
   have hk1 : (if k + 1 ≤ lst then (-1 : Int) else 0) = if k ≤ lst then -1 else 0 := by
    by_cases q : k = lst
    ·rw [q, h0] at e; cases e
    ·have : (k + 1 ≤ lst) ↔ (k ≤ lst) := by omega
     simp only [this]
   rw [hk1] at N_k
   have hgk : (fun j => [iD (f j)]) k = [iD (-1)] := by dsimp only; rw [e]
   generalize vcL (valS f) a k = V at hvs hvl ⊢
   generalize vcL (valS f) a (k + 1) = V' at hvs N_k
   generalize (if k ≤ lst then (-1 : Int) else 0) = fi at N_k ⊢
   conv => whnf
   repeat (refine LookP.mk _ rfl ?_; conv => whnf)
   intro t ht
   cases t
   ·exfalso; first | (simp at ht; done) | (simp at ht; omega)
   conv => whnf
   repeat' first | ((first | refine LookP.mk _ (by first | rfl | exact get_rwE (x := [_]) h_k hgk) ?_ | refine ShlP.mk _ (by first | (simp only [List.set, over, List.take, List.drop, List.append_eq, List.nil_append, List.cons_append, List.length]; rfl) | rfl) ?_ | refine And.intro (by first | exact ⟨Int.natCast_nonneg _, by omega⟩ | exact Nat.le_refl _ | exact ⟨by rw [List.length_map]; exact hvl, by decide, hq⟩ | assumption | exact ⟨by kernel_rfl, rfl⟩ | decide | omega | exact ⟨rfl, by decide, by simp only [List.length_map, Nat.zero_add]; omega⟩) ?_ | refine knownB (show decide ((-1 : Int) < 0) = true from rfl) ?_ | rw [nbeq] | refine HpP.force ?_); conv => whnf) | (intro t ht; cases t <;> conv => whnf)
   refine N_k _ ?_ ?_
   ·first | trivial | assumption | omega
   ·first | refine ren_env [(3, 5)] ?_ ?_ ?_ trivial | refine ren_envB [(3, 5)] rfl rfl ?_ ?_ ?_ trivial
    ·repeat' first | exact trivial | refine ⟨⟨by first | rfl | assumption | exact congrArg (fun n => AV.d (iD n)) e_k, rfl⟩, ?_⟩
    ·repeat' first | exact trivial | refine ⟨⟨ltB rfl, _, rfl, by first | rfl | assumption | exact get_ren rfl (by first | rfl | assumption | exact get_ren rfl (by rw [hvs]; exact congrArg some (dblk_snoc rfl))) | exact get_ren rfl (by rw [hvs]; exact congrArg some (dblk_snoc rfl)), by first | exact below1 rfl | exact below_dblk _ _ _ | exact below_arr rfl⟩, ?_⟩
    ·repeat' first | exact trivial | (refine And.intro ?_ ?_) | (exact fun _ => rfl) | (exact fun h => absurd h (Nat.ne_of_beq_eq_false rfl))
  ·have hlk : lst ≤ k := by
    rcases Nat.lt_or_ge k lst with q | q
    ·have := h1 k q; omega
    ·exact q
   have hv : valS f k = some p := by unfold valS; rw [e, if_neg (by omega)]; rfl
   rw [hv] at hvs
   have hk1 : (if k + 1 ≤ lst then (-1 : Int) else 0) = 0 := if_neg (by omega)
   rw [hk1] at N_k
   have hgk : (fun j => [iD (f j)]) k = [iD (p : Nat)] := by dsimp only; rw [e]
   have hom : PC Pr GG 94 [iD (2 * (4 + p) : Nat)] (amD (some p) 0) := by
    have := omega94 (q := 4 + p) (by omega)
    rwa [show (4 + p) % 4 = p by omega] at this
   have hmu := mul93 hp ha
   have e4 : iadd .i64 4 (p : Int) = ((4 + p : Nat) : Int) := iadd_nat (a := 4) (by omega)
   have e5 : isub .i64 ((4 + p : Nat) : Int) 0 = ((4 + p : Nat) : Int) := isub_nat (b := 0) (by omega) (by omega)
   have e6 : imul .i64 2 ((4 + p : Nat) : Int) = ((2 * (4 + p) : Nat) : Int) := imul_nat (a := 2) (by omega)
   have hpn : decide ((p : Int) < 0) = false := decide_eq_false (by omega)
   generalize vcL (valS f) a k = V at hvs hvl ⊢
   generalize vcL (valS f) a (k + 1) = V' at hvs N_k
   by_cases q : k = lst
   ·rw [if_pos (by omega)]
    have hp0 : p = 0 := by rw [q, h0] at e; omega
    subst hp0
    conv => whnf
    repeat (refine LookP.mk _ rfl ?_; conv => whnf)
    intro t ht
    cases t
    ·exfalso; first | (simp at ht; done) | (simp at ht; omega)
    conv => whnf
    repeat' first | ((first | refine LookP.mk _ (by first | rfl | exact get_rwE (x := [_]) h_k hgk) ?_ | refine ShlP.mk _ (by first | (simp only [List.set, over, List.take, List.drop, List.append_eq, List.nil_append, List.cons_append, List.length]; rfl) | rfl) ?_ | refine And.intro (by first | exact ⟨Int.natCast_nonneg _, by omega⟩ | exact Nat.le_refl _ | exact ⟨by rw [List.length_map]; exact hvl, by decide, hq⟩ | assumption | exact ⟨by kernel_rfl, rfl⟩ | decide | omega | exact ⟨rfl, by decide, by simp only [List.length_map, Nat.zero_add]; omega⟩) ?_ | refine knownB (show decide ((-1 : Int) < 0) = true from rfl) ?_ | refine knownB hpn ?_ | rw [e4] | rw [e5] | rw [e6] | refine pc_use hom ?_ | refine pc_head hom ?_ | refine pc_use hmu ?_ | refine pc_head hmu ?_ | rw [nbeq] | refine HpP.force ?_); conv => whnf) | (intro t ht; cases t <;> conv => whnf)
    refine N_k _ ?_ ?_
    ·first | trivial | assumption | omega
    ·first | refine ren_env [(3, 6)] ?_ ?_ ?_ trivial | refine ren_envB [(3, 6)] rfl rfl ?_ ?_ ?_ trivial
     ·repeat' first | exact trivial | refine ⟨⟨by first | rfl | assumption | exact congrArg (fun n => AV.d (iD n)) e_k, rfl⟩, ?_⟩
     ·repeat' first | exact trivial | refine ⟨⟨ltB rfl, _, rfl, by first | rfl | assumption | exact get_ren rfl (by first | rfl | assumption | exact get_ren rfl (by rw [hvs]; exact congrArg some (dblk_snoc rfl))) | exact get_ren rfl (by rw [hvs]; exact congrArg some (dblk_snoc rfl)), by first | exact below1 rfl | exact below_dblk _ _ _ | exact below_arr rfl⟩, ?_⟩
     ·repeat' first | exact trivial | (refine And.intro ?_ ?_) | (exact fun _ => rfl) | (exact fun h => absurd h (Nat.ne_of_beq_eq_false rfl))
   ·rw [if_neg (by omega)]
    conv => whnf
    repeat (refine LookP.mk _ rfl ?_; conv => whnf)
    intro t ht
    cases t
    ·exfalso; first | (simp at ht; done) | (simp at ht; omega)
    conv => whnf
    repeat' first | ((first | refine LookP.mk _ (by first | rfl | exact get_rwE (x := [_]) h_k hgk) ?_ | refine ShlP.mk _ (by first | (simp only [List.set, over, List.take, List.drop, List.append_eq, List.nil_append, List.cons_append, List.length]; rfl) | rfl) ?_ | refine And.intro (by first | exact ⟨Int.natCast_nonneg _, by omega⟩ | exact Nat.le_refl _ | exact ⟨by rw [List.length_map]; exact hvl, by decide, hq⟩ | assumption | exact ⟨by kernel_rfl, rfl⟩ | decide | omega | exact ⟨rfl, by decide, by simp only [List.length_map, Nat.zero_add]; omega⟩) ?_ | refine knownB (show decide ((0 : Int) < 0) = false from rfl) ?_ | refine knownB hpn ?_ | rw [e4] | rw [e5] | rw [e6] | refine pc_use hom ?_ | refine pc_head hom ?_ | refine pc_use hmu ?_ | refine pc_head hmu ?_ | rw [nbeq] | refine HpP.force ?_); conv => whnf) | (intro t ht; cases t <;> conv => whnf)
    refine N_k _ ?_ ?_
    ·first | trivial | assumption | omega
    ·first | refine ren_env [(3, 6)] ?_ ?_ ?_ trivial | refine ren_envB [(3, 6)] rfl rfl ?_ ?_ ?_ trivial
     ·repeat' first | exact trivial | refine ⟨⟨by first | rfl | assumption | exact congrArg (fun n => AV.d (iD n)) e_k, rfl⟩, ?_⟩
     ·repeat' first | exact trivial | refine ⟨⟨ltB rfl, _, rfl, by first | rfl | assumption | exact get_ren rfl (by first | rfl | assumption | exact get_ren rfl (by rw [hvs]; exact congrArg some (dblk_snoc rfl))) | exact get_ren rfl (by rw [hvs]; exact congrArg some (dblk_snoc rfl)), by first | exact below1 rfl | exact below_dblk _ _ _ | exact below_arr rfl⟩, ?_⟩
     ·repeat' first | exact trivial | (refine And.intro ?_ ?_) | (exact fun _ => rfl) | (exact fun h => absurd h (Nat.ne_of_beq_eq_false rfl))
 ·intro A_last I_last
  conv => whnf
  repeat (refine LookP.mk _ rfl ?_; conv => whnf)
  intro t ht
  cases t
  rotate_left
  ·exfalso; first | (simp at ht; done) | (simp at ht; omega)
  conv => whnf
  repeat' first | ((first | refine LookP.mk _ rfl ?_ | refine ShlP.mk _ (by first | (simp only [List.set, over, List.take, List.drop, List.append_eq, List.nil_append, List.cons_append, List.length]; rfl) | rfl) ?_ | refine And.intro (by first | assumption | exact ⟨by kernel_rfl, rfl⟩ | decide | omega | exact ⟨rfl, by decide, by simp only [List.length_map, Nat.zero_add]; omega⟩) ?_ | refine HpP.force ?_); conv => whnf) | (intro t ht; cases t <;> conv => whnf)
  exact fin ⟨3, rfl, rfl⟩
theorem vector19 {w lst a : Nat} {f : Nat → Int} (hw : 1 ≤ w ∧ w ≤ 12) (l : List Ps) (t : Bool) (ha : a ≤ 12) (hlt : lst < 2 ^ w) (h91 : PO Pr GG 91 [stD w l t] (.tup [.sl 0 1 0 (2 ^ w) (2 ^ w) true, .d (iD a)]) [(0, some (dblk 1 ((List.range (2 ^ w)).map fun j => [iD (f j)])))] 1)
  (hf : ∀ k, k < 2 ^ w → f k = -1 ∨ ∃ p : Nat, p < 4 ∧ f k = p) (h0 : f lst = 0) (h1 : ∀ k, k < lst → f k = -1) : PC Pr GG 19 [stD w l t] (.sl (vcL (valS f) a (2 ^ w)) false) := by
 refine pc_freeze (isFn_of Tryz.func19 chk19) (acall_mono (vector19a hw l t ha hlt h91 hf h0 h1) ?_)
 rintro v H _ ⟨nm, rfl, hg⟩
 exact asD_dblk hg (by simp)
end Go.Tz
namespace Go.Tz
open Go Go.AL Go.Proofs Go.Ma
theorem vector_ref {w : Nat} {l : List Ps} (h : SOk w l) (t : Bool) : ∃ (lst m : Nat) (val : Nat → Option Nat), m ≤ 12 ∧ Amp (l.map nf) w lst m val ∧ PC Pr GG 19 [stD w l t] (.sl (vcL val m (2 ^ w)) false) := by
 have hw : 1 ≤ w ∧ w ≤ 12 := ⟨h.lo, h.hi⟩
 have hst := sok_sta h
 obtain ⟨pc, hp⟩ := pa_run h.hi h.len h.vl hst.good w (Nat.le_refl w)
 have hE := ptq_end h.hi hp.pt
 have hle := hp.le
 have hv := fun j (hj : j < w) => paok_v hp hj
 obtain ⟨s1, s2, s3⟩ := ls_end h
 generalize (lsS w l w).2 = lst at s1 s2 s3
 have h91 := fun hT hF hx hgen hD => amplitudes91 (lst := lst) (a := (parN l w).2) hw l t h.len h.vl rfl hp.le s2 hT hF hx hst.good s1 hgen hD
 generalize parN l w = s at hp hE hle hv h91
 obtain ⟨rf, a⟩ := s
 dsimp only at hp hE hle hv h91
 have hx : ∀ j, j < w → ((rf j).x = 0 ↔ a ≤ j) := fun j hj => by
  obtain ⟨_, _, x3⟩ := xv_nf h.hi (hv j hj)
  constructor
  ·intro e
   rcases Nat.lt_or_ge j a with q | q
   ·exfalso
    have hb := hE.pt.bit (pc j, rf j) (List.mem_map.2 ⟨j, List.mem_range.2 q, rfl⟩)
    have hb : (rf j).x.toNat.testBit (pc j) = true := hb
    rw [e] at hb
    simp at hb
   ·exact q
  ·intro q
   have := hE.zero (rf j) (List.mem_map.2 ⟨j - a, List.mem_range.2 (by show j - a < w - a; omega), by show rf (a + (j - a)) = _; rw [show a + (j - a) = j by omega]⟩)
   rw [x3, this]; rfl
 have hT : ∀ k, refT w rf k w = true ↔ Sup (l.map nf) k := fun k => by
  rw [pte_sup h.hi hE]
  unfold refT
  rw [List.all_eq_true]
  constructor
  ·intro q b hb
   obtain ⟨j, hj, rfl⟩ := List.mem_map.1 hb
   have hj : j < w - a := List.mem_range.1 hj
   have h1 := q (a + j) (List.mem_range.2 (by omega))
   unfold tstB at h1
   rw [decide_eq_false (by rw [(hx (a + j) (by omega)).2 (by omega)]; simp)] at h1
   simpa using h1
  ·intro q j hj
   have hj := List.mem_range.1 hj
   unfold tstB
   rcases Nat.lt_or_ge j a with c | c
   ·have hne : (rf j).x ≠ 0 := fun e => by have := (hx j hj).1 e; omega
    rw [decide_eq_true hne]; rfl
   ·have := q (rf j) (List.mem_map.2 ⟨j - a, List.mem_range.2 (by show j - a < w - a; omega), by show rf (a + (j - a)) = _; rw [show a + (j - a) = j by omega]⟩)
    rw [decide_eq_true this]; simp
 have hm : ∀ j, j < w → rf j ∈ ((List.range a).map fun j => (pc j, rf j)).map (·.2) ++ paB w (rf, a) := fun j hj => by
  rcases Nat.lt_or_ge j a with q | q
  ·exact List.mem_append.2 (.inl (List.mem_map.2 ⟨_, List.mem_map.2 ⟨j, List.mem_range.2 q, rfl⟩, rfl⟩))
  ·exact List.mem_append.2 (.inr (List.mem_map.2 ⟨j - a, List.mem_range.2 (by show j - a < w - a; omega), by show rf (a + (j - a)) = _; rw [show a + (j - a) = j by omega]⟩))
 have hgen : ∀ j, j < w → Gen (l.map nf) (nf (rf j)) := fun j hj => (hE.pt.same _).2 (gen_mem' hE.pt.good (List.mem_map.2 ⟨_, hm j hj, rfl⟩))
 have hA2 : ((List.range a).map fun j => (pc j, rf j)).map (·.2) = (List.range a).map rf := by rw [List.map_map]; rfl
 have hD : ∀ i, i ≤ a → Dbl (l.map nf) w lst (ampS lst ((List.range i).map rf)) ∧ (ampS lst ((List.range i).map rf)).2.length = 2 ^ i := fun i hi => by
  have := dbl_run h.hi hst.good s1 s2 ((List.range a).map fun j => (pc j, rf j)) i (fun b hb => by
   obtain ⟨j, hj, rfl⟩ := List.mem_map.1 hb
   have hj := List.mem_range.1 hj
   exact ⟨hv j (by omega), hgen j (by omega)⟩) (by simpa using hi)
  have e : (((List.range a).map fun j => (pc j, rf j)).take i).map (·.2) = (List.range i).map rf := by
   rw [← List.map_take, List.take_range, List.map_map, Nat.min_eq_left hi]; rfl
  rw [e] at this
  exact ⟨this.1, this.2.1⟩
 have hF : ∀ k, k < lst → refT w rf k w = false := fun k hk => by
  cases e : refT w rf k w with
  | false => rfl
  | true =>
   have := s3 k ((hT k).1 e)
   omega
 obtain ⟨am, ad⟩ := amp_dbl h.hi hst.good hE s1 s2 fun k _ hk => s3 k hk
 rw [hA2] at am ad
 have hlen : ((List.range a).map fun j => (pc j, rf j)).length = a := by simp
 rw [hlen] at am
 have h91' := h91 ((hT lst).2 s1) hF hx hgen hD
 obtain ⟨f1, f2⟩ := amp_first hst.good am
 have hf : ∀ k, (ampS lst ((List.range a).map rf)).1 k = -1 ∨ ∃ p : Nat, p < 4 ∧ (ampS lst ((List.range a).map rf)).1 k = p := fun k => by
  by_cases q : k ∈ (ampS lst ((List.range a).map rf)).2
  ·obtain ⟨g, _, _, g3⟩ := ad.mem k q
   exact .inr ⟨_, phE_lt g lst, g3⟩
  ·exact .inl (ad.out k q)
 refine ⟨lst, a, _, by omega, am, vector19 hw l t (by omega) s2 h91' (fun k _ => hf k) ?_ fun k hk => ?_⟩
 ·unfold valS at f1
  split at f1
  ·cases f1
  ·have := Option.some.inj f1
   omega
 ·have h2 := f2 k hk
  unfold valS at h2
  split at h2
  ·rcases hf k with e | ⟨p, _, e⟩
   ·exact e
   ·omega
  ·cases h2
end Go.Tz
namespace Go.Tz
open Go Go.AL Go.Proofs Go.Ma
def fpL (a : Nat × Ps) : List D := [iD (a.1 : Int), iD a.2.w, iD a.2.x, iD a.2.z, iD a.2.p]
abbrev fpD (l : List (Nat × Ps)) (t : Bool) : D := .sl (l.map fpL) t
theorem chk98 : chkFn Tryz.f98 = true := by kernel_rfl
def powI (q : Ps) (lst : Int) : Int := iadd .i64 (iadd .i64 q.p (ocI (IntKind.u64.wrap (iand .i64 q.x q.z)))) (imul .i64 2 (ocI (IntKind.u64.wrap (iand .i64 q.z lst))))
theorem pow_ok {w lst : Nat} (hw : w ≤ 12) {q : Ps} (hq : Vl w q) (hl : lst < 2 ^ w) : ∃ n : Nat, n < 40 ∧ powI q lst = n ∧ n % 4 = phE (nf q) lst := by
 have hp : 2 ^ w ≤ 4096 := Nat.pow_le_pow_right (by decide) hw
 obtain ⟨X, Z, P, rfl, h1, h2, h3⟩ := hq
 rw [ph_nf hw h1 h2 hl]
 obtain ⟨d, hd⟩ : ∃ d, 12 = w + d := ⟨12 - w, by omega⟩
 have e1 : pop 12 (X &&& Z) = pop w (X &&& Z) := by rw [hd, pop_stop (Nat.and_lt_two_pow X h2)]
 have e2 : pop 12 (Z &&& lst) = pop w (Z &&& lst) := by rw [hd, pop_stop (Nat.and_lt_two_pow Z hl)]
 have a1 : X &&& Z < 4096 := Nat.lt_of_lt_of_le (Nat.and_lt_two_pow X h2) hp
 have a2 : Z &&& lst < 4096 := Nat.lt_of_lt_of_le (Nat.and_lt_two_pow Z hl) hp
 have p1 := pop_le w (X &&& Z)
 have p2 := pop_le w (Z &&& lst)
 refine ⟨fln P X Z lst w, by unfold fln; omega, ?_, rfl⟩
 unfold powI mk
 dsimp only
 rw [iand_nat (by omega) (by omega), iand_nat (by omega) (by omega), wrapu (by omega), wrapu (by omega), oc_nat a1, oc_nat a2, e1, e2]
 unfold fln
 generalize pop w (X &&& Z) = m at p1 ⊢
 generalize pop w (Z &&& lst) = n at p2 ⊢
 rw [iadd_nat (by omega), show imul .i64 2 (n : Int) = ((2 * n : Nat) : Int) from imul_nat (a := 2) (by omega), iadd_nat (by omega)]
theorem wy_vl {w : Nat} (hw : w ≤ 12) : ∀ (A : List (Nat × Ps)) (s : Ps × Nat), (∀ a, a ∈ A → Vl w a.2) → Vl w s.1 → s.2 < 2 ^ w → Vl w (A.foldl wyS s).1 ∧ (A.foldl wyS s).2 < 2 ^ w
 | [], _, _, h1, h2 => ⟨h1, h2⟩
 | a :: A, s, hA, h1, h2 => by
  rw [List.foldl_cons]
  refine wy_vl hw A _ (fun b hb => hA b (List.mem_cons_of_mem _ hb)) ?_ ?_ <;> unfold wyS <;> split
  ·exact mul_vl hw h1 (hA a (by simp))
  ·exact h1
  ·exact Nat.xor_lt_two_pow h2 (xv_nf hw (hA a (by simp))).2.1
  ·exact h2
theorem amplitude98 {w : Nat} (hw : 1 ≤ w ∧ w ≤ 12) (A : List (Nat × Ps)) (t : Bool) (lst b : Nat) (hn : A.length ≤ 12) (hl : lst < 2 ^ w) (hb : b < 2 ^ w) (hA : ∀ a, a ∈ A → Vl w a.2 ∧ a.1 < 12) :
  PC Pr GG 98 [fpD A t, iD lst, iD b, iD w] (amD (valW w A lst b) A.length) := by
 have hp : 2 ^ w ≤ 4096 := Nat.pow_le_pow_right (by decide) hw.2
 have hx : ixor .i64 (lst : Int) (b : Int) = ((lst ^^^ b : Nat) : Int) := ixor_nat (by omega) (by omega)
 have hu : lst ^^^ b < 2 ^ w := Nat.xor_lt_two_pow hl hb
 have hval : valW w A lst b = if (A.foldl wyS (⟨w, 0, 0, 0⟩, lst ^^^ b)).2 = 0 then some (phE (nf (A.foldl wyS (⟨w, 0, 0, 0⟩, lst ^^^ b)).1) lst) else none := rfl
 rw [hval]
 clear hval
 generalize lst ^^^ b = u at hx hu ⊢
 have hwy := fun i => wy_vl hw.2 (A.take i) (⟨w, 0, 0, 0⟩, u) (fun a ha => (hA a (List.mem_of_mem_take ha)).1) (vl_one w) hu
 have hro := root78 hn
 refine pc_walk pok Tryz.func98 chk98 ?_
 conv => whnf
 repeat' first | ((first | refine LookP.mk _ rfl ?_ | refine ShlP.mk _ (by first | (simp only [List.set, over, List.take, List.drop, List.append_eq, List.nil_append, List.cons_append, List.length]; rfl) | rfl) ?_ | refine And.intro (by first | assumption | exact ⟨by kernel_rfl, rfl⟩ | decide | omega | exact ⟨rfl, by decide, by simp only [List.length_map, Nat.zero_add]; omega⟩) ?_ | rw [hx] | refine HpP.force ?_); conv => whnf) | (intro t ht; cases t <;> conv => whnf)
 refine for_use pok (fun i => ⟨[(0, .d (fpD A t)), (1, .d (iD lst)), (8, .ptr 0 5 0 0), (9, .ptr 1 4 0 0), (10, .d (iD (((A.take i).foldl wyS (⟨w, 0, 0, 0⟩, u)).2 : Nat))), (23, .d (fpD A t)), (24, .d (iD (A.map fpL).length)), (25, .d (iD i))], [(0, some (.arr 5 [[.d (iD 0), .d (iD 0), .d (iD 0), .d (iD 0), .d (iD 0)]])), (1, some (.arr 4 [((A.take i).foldl wyS (⟨w, 0, 0, 0⟩, u)).1.l.map AV.d]))], 2⟩) (A.length) (fun _ => True) (trivial) ?_ (by kernel_rfl) ?_ ?_
 ·refine keep_env (by first | exact Nat.zero_le _ | exact Nat.le_of_ble_eq_true rfl) ?_ ?_ trivial
  ·repeat' first | exact trivial | refine ⟨⟨by first | rfl | assumption, rfl⟩, ?_⟩
  ·repeat' first | exact trivial | refine ⟨⟨ltB rfl, _, rfl, by first | rfl | assumption, by first | exact below1 rfl | exact below_dblk _ _ _ | exact below_arr rfl⟩, ?_⟩
 ·intro i A_i h_i I_i N_i
  have e_i : iadd .i64 (i : Int) 1 = ((i + 1 : Nat) : Int) := iadd_nat (by first | omega | (simp at *; omega))
  obtain ⟨v1, v2⟩ := hwy i
  obtain ⟨a1, a2⟩ := hA A[i] (List.getElem_mem h_i)
  have hst : (A.take (i + 1)).foldl wyS (⟨w, 0, 0, 0⟩, u) = wyS ((A.take i).foldl wyS (⟨w, 0, 0, 0⟩, u)) A[i] := by rw [take_snoc h_i, List.foldl_append]; rfl
  have hgi : (A.map fpL)[(i : Int).toNat]? = some (fpL A[i]) := by simp [List.getElem?_eq_getElem h_i]
  generalize A[i] = f at a1 a2 hst hgi
  generalize (A.take (i + 1)).foldl wyS (⟨w, 0, 0, 0⟩, u) = s' at hst N_i
  generalize (A.take i).foldl wyS (⟨w, 0, 0, 0⟩, u) = s at v1 v2 hst ⊢
  obtain ⟨q, v⟩ := s
  obtain ⟨q', v'⟩ := s'
  obtain ⟨k, r⟩ := f
  dsimp only at v1 v2 a1 a2 N_i ⊢
  have hbit : iand .i64 (ishr .i64 (v : Int) (k : Int)) 1 = if v.testBit k then 1 else 0 := bit_nat (by omega) (by omega)
  obtain ⟨_, x2, x3⟩ := xv_nf hw.2 a1
  have hxr : ixor .i64 (v : Int) r.x = ((v ^^^ r.x.toNat : Nat) : Int) := by rw [x3]; exact ixor_nat (by omega) (by omega)
  have ht2 := times183v (G := GG) hw q [r] true (by simp) v1 (by intro y hy; rw [List.mem_singleton.1 hy]; exact a1)
  have hme : ([r].foldl mulS q) = mulS q r := rfl
  rw [hme] at ht2
  unfold wyS at hst
  dsimp only at hst
  cases hbk : v.testBit k
  ·rw [hbk] at hbit hst
   rw [if_neg (by decide)] at hst hbit
   cases hst
   conv => whnf
   repeat (refine LookP.mk _ rfl ?_; conv => whnf)
   intro t ht
   cases t
   ·exfalso; first | (simp at ht; done) | (simp at ht; omega)
   conv => whnf
   repeat' first | ((first | refine LookP.mk _ (by first | rfl | exact hgi) ?_ | refine ShlP.mk _ (by first | (simp only [List.set, over, List.take, List.drop, List.append_eq, List.nil_append, List.cons_append, List.length]; rfl) | rfl) ?_ | refine And.intro (by first | exact ⟨Int.natCast_nonneg _, by omega⟩ | assumption | exact ⟨by kernel_rfl, rfl⟩ | decide | omega | exact ⟨rfl, by decide, by simp only [List.length_map, Nat.zero_add]; omega⟩) ?_ | rw [hbit] | refine knownB (show ((0 : Int) == 1) = false from rfl) ?_ | refine HpP.force ?_); conv => whnf) | (intro t ht; cases t <;> conv => whnf)
   refine N_i _ ?_ ?_
   ·first | trivial | assumption | omega
   ·refine keep_env (by first | exact Nat.zero_le _ | exact Nat.le_of_ble_eq_true rfl) ?_ ?_ trivial
    ·repeat' first | exact trivial | refine ⟨⟨by first | rfl | assumption | exact congrArg (fun n => AV.d (iD n)) e_i, rfl⟩, ?_⟩
    ·repeat' first | exact trivial | refine ⟨⟨ltB rfl, _, rfl, by first | rfl | assumption, by first | exact below1 rfl | exact below_dblk _ _ _ | exact below_arr rfl⟩, ?_⟩
  ·rw [hbk] at hbit hst
   rw [if_pos rfl] at hst hbit
   generalize mulS q r = m at ht2 hst
   cases hst
   conv => whnf
   repeat (refine LookP.mk _ rfl ?_; conv => whnf)
   intro t ht
   cases t
   ·exfalso; first | (simp at ht; done) | (simp at ht; omega)
   conv => whnf
   repeat' first | ((first | refine LookP.mk _ (by first | rfl | exact hgi) ?_ | refine ShlP.mk _ (by first | (simp only [List.set, over, List.take, List.drop, List.append_eq, List.nil_append, List.cons_append, List.length]; rfl) | rfl) ?_ | refine And.intro (by first | exact ⟨Int.natCast_nonneg _, by omega⟩ | assumption | exact ⟨by kernel_rfl, rfl⟩ | decide | omega | exact ⟨rfl, by decide, by simp only [List.length_map, Nat.zero_add]; omega⟩) ?_ | rw [hbit] | refine knownB (show ((1 : Int) == 1) = true from rfl) ?_ | refine pc_givec (ht2) rfl ?_ | refine pc_lendc (ht2) rfl rfl ?_ | rw [hxr] | refine HpP.force ?_); conv => whnf) | (intro t ht; cases t <;> conv => whnf)
   refine N_i _ ?_ ?_
   ·first | trivial | assumption | omega
   ·refine keep_env (by first | exact Nat.zero_le _ | exact Nat.le_of_ble_eq_true rfl) ?_ ?_ trivial
    ·repeat' first | exact trivial | refine ⟨⟨by first | rfl | assumption | exact congrArg (fun n => AV.d (iD n)) e_i, rfl⟩, ?_⟩
    ·repeat' first | exact trivial | refine ⟨⟨ltB rfl, _, rfl, by first | rfl | assumption, by first | exact below1 rfl | exact below_dblk _ _ _ | exact below_arr rfl⟩, ?_⟩
 ·intro A_last I_last
  rw [List.take_length]
  obtain ⟨v1, v2⟩ := hwy A.length
  rw [List.take_length] at v1 v2
  obtain ⟨n, n1, n2, n3⟩ := pow_ok hw.2 v1 hl
  generalize A.foldl wyS (⟨w, 0, 0, 0⟩, u) = s at v1 v2 n2 n3 ⊢
  obtain ⟨q, v⟩ := s
  dsimp only at v1 v2 n2 n3 ⊢
  unfold powI at n2
  have o1 := ones187 (G := GG) (IntKind.u64.wrap (iand .i64 q.x q.z))
  have o2 := ones187 (G := GG) (IntKind.u64.wrap (iand .i64 q.z lst))
  have e6 : imul .i64 2 (n : Int) = ((2 * n : Nat) : Int) := imul_nat (a := 2) (by omega)
  have hom := omega165 n1
  have hmu := mul75 (p := n % 4) (by omega) hn
  rw [n3] at hom hmu
  have hln : (A.map fpL).length = A.length := List.length_map _
  generalize phE (nf q) lst = p at hom hmu ⊢
  generalize ocI (IntKind.u64.wrap (iand .i64 q.x q.z)) = c1 at o1 n2
  generalize ocI (IntKind.u64.wrap (iand .i64 q.z lst)) = c2 at o2 n2
  by_cases hv0 : v = 0
  ·rw [if_pos hv0]
   have hvb : ((v : Int) != 0) = false := by rw [hv0]; rfl
   conv => whnf
   repeat (refine LookP.mk _ rfl ?_; conv => whnf)
   intro t ht
   cases t
   rotate_left
   ·exfalso; first | (simp at ht; done) | (simp at ht; omega)
   conv => whnf
   repeat' first | ((first | refine LookP.mk _ rfl ?_ | refine ShlP.mk _ (by first | (simp only [List.set, over, List.take, List.drop, List.append_eq, List.nil_append, List.cons_append, List.length]; rfl) | rfl) ?_ | refine And.intro (by first | assumption | exact ⟨by kernel_rfl, rfl⟩ | decide | omega | exact ⟨rfl, by decide, by simp only [List.length_map, Nat.zero_add]; omega⟩) ?_ | refine knownB hvb ?_ | refine pc_use o1 ?_ | refine pc_head o1 ?_ | refine pc_use o2 ?_ | refine pc_head o2 ?_ | rw [n2] | rw [hln] | refine pc_use hro ?_ | refine pc_head hro ?_ | rw [e6] | refine pc_use hom ?_ | refine pc_head hom ?_ | refine pc_use hmu ?_ | refine pc_head hmu ?_ | refine HpP.force ?_); conv => whnf) | (intro t ht; cases t <;> conv => whnf)
   exact fin rfl
  ·rw [if_neg hv0]
   have hvb : ((v : Int) != 0) = true := by simp [hv0]
   conv => whnf
   repeat (refine LookP.mk _ rfl ?_; conv => whnf)
   intro t ht
   cases t
   rotate_left
   ·exfalso; first | (simp at ht; done) | (simp at ht; omega)
   conv => whnf
   repeat' first | ((first | refine LookP.mk _ rfl ?_ | refine ShlP.mk _ (by first | (simp only [List.set, over, List.take, List.drop, List.append_eq, List.nil_append, List.cons_append, List.length]; rfl) | rfl) ?_ | refine And.intro (by first | assumption | exact ⟨by kernel_rfl, rfl⟩ | decide | omega | exact ⟨rfl, by decide, by simp only [List.length_map, Nat.zero_add]; omega⟩) ?_ | refine knownB hvb ?_ | refine HpP.force ?_); conv => whnf) | (intro t ht; cases t <;> conv => whnf)
   exact fin rfl
end Go.Tz
namespace Go.Tz
open Go Go.AL Go.Proofs Go.Ma
theorem asD_pre {H : AHeap} {nm sz len room : Nat} {t : Bool} {l : List (List D)} (hg : H.get nm = some (dblk sz l)) (h1 : len ≤ l.length) : AsD H (.sl nm sz 0 len room t) (.sl (l.take len) (t && decide (room = len))) := by
 have := asD_sl_map (lo := 0) (len := len) (room := room) (t := t) hg (by simpa using h1)
 rw [List.drop_zero] at this
 exact this
theorem asD_rows {H : AHeap} {nm w m room : Nat} {rf : Nat → Ps} (hg : H.get nm = some (dblk 4 ((List.range w).map fun j => Ps.l (rf j)))) (h : m ≤ w) : AsD H (.sl nm 4 0 m room false) (rowsD ((List.range m).map rf) false) := by
 have := asD_pre (len := m) (room := room) (t := false) hg (by simpa using h)
 have e : ((List.range w).map fun j => Ps.l (rf j)).take m = ((List.range m).map rf).map Ps.l := by
  rw [← List.map_take, List.take_range, Nat.min_eq_left h, List.map_map]; rfl
 rw [e] at this
 exact this
theorem dtail_rows {w m f : Nat} (rf : Nat → Ps) (h : m ≤ w) (hf : f < m) : List.take (m - ((f + 1 : Nat) : Int).toNat) (List.drop (0 + ((f + 1 : Nat) : Int).toNat) (((List.range w).map fun j => Ps.l (rf j)).map fun el => el.map AV.d)) = ((List.range (m - 1 - f)).map fun j => Ps.l (rf (f + 1 + j))).map fun el => el.map AV.d := by
 rw [Int.toNat_natCast, Nat.zero_add]
 apply List.ext_getElem
 ·simp; omega
 ·intro i h1 h2
  simp
def mvF (rf : Nat → Ps) (m f j : Nat) : Ps := if j < f then rf j else if j < m - 1 then rf (j + 1) else rf j
theorem over_rows {w m f : Nat} (rf : Nat → Ps) (h : m ≤ w) (hf : f < m) : over (((List.range w).map fun j => Ps.l (rf j)).map fun el => el.map AV.d) (0 + 0 + ((f : Int).toNat - 0)) (((List.range (m - 1 - f)).map fun j => Ps.l (rf (f + 1 + j))).map fun el => el.map AV.d) = ((List.range w).map fun j => Ps.l (mvF rf m f j)).map fun el => el.map AV.d := by
 rw [Int.toNat_natCast, Nat.zero_add, Nat.sub_zero]
 unfold over
 apply List.ext_getElem
 ·simp; omega
 ·intro i h1 h2
  simp only [List.length_map, List.length_range] at h2
  simp only [List.getElem_append, List.getElem_take, List.getElem_drop, List.getElem_map, List.getElem_range, List.length_take, List.length_map, List.length_range, List.length_append]
  unfold mvF
  by_cases a : i < f
  ·rw [dif_pos (by omega), dif_pos (by omega), if_pos a]
  ·by_cases b : i < m - 1
   ·rw [dif_pos (by omega), dif_neg (by omega), if_neg a, if_pos b, show f + 1 + (i - min f w) = i + 1 by omega]
   ·rw [dif_neg (by omega), if_neg a, if_neg b, show f + (m - 1 - f) + (i - (min f w + (m - 1 - f))) = i by omega]
theorem clear_rows {w m f : Nat} (rf : Nat → Ps) (h : m ≤ w) (hf : f < m) (hz : ∀ j, m ≤ j → rf j = Ps.z0) : over (((List.range w).map fun j => Ps.l (mvF rf m f j)).map fun el => el.map AV.d) (0 + 0 + ((m - 1 : Nat) : Int).toNat) (List.replicate ((m : Int).toNat - ((m - 1 : Nat) : Int).toNat) (Ps.z0.l.map AV.d)) = ((List.range w).map fun j => Ps.l (dlt rf f j)).map fun el => el.map AV.d := by
 rw [Int.toNat_natCast, Int.toNat_natCast, Nat.zero_add]
 unfold over
 apply List.ext_getElem
 ·simp; omega
 ·intro i h1 h2
  simp only [List.length_map, List.length_range] at h2
  simp only [List.getElem_append, List.getElem_take, List.getElem_drop, List.getElem_map, List.getElem_range, List.length_take, List.length_map, List.length_range, List.length_append, List.getElem_replicate, List.length_replicate]
  unfold mvF dlt
  by_cases a : i < m - 1
  ·rw [dif_pos (by omega), dif_pos (by omega)]
   by_cases b : i < f
   ·rw [if_pos b, if_pos b]
   ·rw [if_neg b, if_pos a, if_neg b]
  ·by_cases b : i = m - 1
   ·rw [dif_pos (by omega), dif_neg (by omega), if_neg (by omega), hz (i + 1) (by omega)]
   ·rw [dif_neg (by omega), if_neg (by omega), if_neg (by omega), if_neg (by omega), hz (i + 1) (by omega), hz _ (by omega)]
theorem scal_rows {k : Nat} (g : Nat → Ps) : ((((List.range k).map fun j => Ps.l (g j)).map fun el => el.map AV.d).all fun el => el.all AV.scalar) = true := by
 rw [List.all_eq_true]
 intro el h
 obtain ⟨x, hx, rfl⟩ := List.mem_map.1 h
 obtain ⟨j, _, rfl⟩ := List.mem_map.1 hx
 rfl
theorem chk181 : chkFn Tryz.f181 = true := by kernel_rfl
theorem has181 (q : Ps) (n : Nat) : PC Pr GG 181 [q.d, .rop [iD n] 0] (.bool (bitB q (2 * n : Nat))) := by
 rw [bitB_even]
 refine pc_walk pok Tryz.func181 chk181 ?_
 conv => whnf
 repeat' first | ((first | refine LookP.mk _ rfl ?_ | refine ShlP.mk _ (by first | (simp only [List.set, over, List.take, List.drop, List.append_eq, List.nil_append, List.cons_append, List.length]; rfl) | rfl) ?_ | refine And.intro (by first | assumption | exact ⟨by kernel_rfl, rfl⟩ | decide | omega | exact ⟨rfl, by decide, by simp only [List.length_map, Nat.zero_add]; omega⟩) ?_ | refine HpP.force ?_); conv => whnf) | (intro t ht; cases t <;> conv => whnf)
 all_goals
  refine fin ?_
  have e : decide (bitI q.x n = 1) = (iand .i64 (ishr .i64 q.x n) 1 == 1) := by rw [Bool.eq_iff_iff, decide_eq_true_iff, beq_iff_eq]; rfl
  rw [e, ht]
theorem chk96 : chkFn Tryz.f96 = true := by kernel_rfl
theorem chk182 : chkFn Tryz.f182 = true := by kernel_rfl
abbrev wkD (w : Nat) (l : List Ps) : D := .rop [iD w, rowsD l true, .any] 0
theorem pc_two {f : FuncId} {ds : List D} {d : D} (hf : IsFn Pr f) (h : ACall Pr GG f (ds.map .d) [] 2 fun v H _ => AsD H v d) : PC Pr GG f ds d :=
 pc_freeze hf (acall_frame h (Nat.zero_le 2) (fun _ _ q => q) fun v H1 _ q => ⟨H1, fun _ _ q => .inl q, q⟩)
theorem flips96a {w : Nat} {l : List Ps} (hw : 1 ≤ w ∧ w ≤ 12) (hlen : l.length = w) (hv : ∀ q, q ∈ l → Vl w q) (hG : Good (l.map nf)) :
  ACall Pr GG 96 [.d (wkD w l)] [] 2 fun v H _ => ∃ nm, v = .sl nm 5 0 (flA w (flN w l w)).length (flA w (flN w l w)).length false ∧ H.get nm = some (dblk 5 ((flA w (flN w l w)).map fpL)) := by
 have hcl := clone87o (G := GG) l true (by omega) (by omega)
 rw [hlen] at hcl
 have hrun := fl_run hw.2 hlen hv hG
 have hl0 : l.map Ps.l = (List.range w).map fun j => Ps.l ((flN w l 0).r j) := by
  have e : l.map Ps.l = (List.range l.length).map fun j => Ps.l (l.getD j Ps.z0) := by
   apply List.ext_getElem
   ·simp
   ·intro j h1 h2
    have h3 : j < l.length := by simpa using h1
    simp [List.getElem?_eq_getElem h3]
  rw [e, hlen]; rfl
 refine fn_walk pok Tryz.func96 chk96 ?_
 conv => whnf
 repeat' first | ((first | refine LookP.mk _ rfl ?_ | refine ShlP.mk _ (by first | (simp only [List.set, over, List.take, List.drop, List.append_eq, List.nil_append, List.cons_append, List.length]; rfl) | rfl) ?_ | refine And.intro (by first | assumption | exact ⟨by kernel_rfl, rfl⟩ | decide | omega | exact ⟨rfl, by decide, by simp only [List.length_map, Nat.zero_add]; omega⟩) ?_ | refine po_use hcl ?_ | refine HpP.force ?_); conv => whnf) | (intro t ht; cases t <;> conv => whnf)
 rw [hl0]
 refine for_use pok (fun n => ⟨[(3, .sl 3 5 0 (w - (flN w l n).m) (w - (flN w l n).m) false), (4, .sl 2 4 0 (flN w l n).m w false), (20, .d (iD w)), (21, .d (iD n))], [(2, some (dblk 4 ((List.range w).map fun j => Ps.l ((flN w l n).r j)))), (3, some (dblk 5 ((List.range (w - (flN w l n).m)).map fun j => fpL ((flN w l n).o j))))], 4⟩) (w) (fun _ => True) (trivial) ?_ (by kernel_rfl) ?_ ?_
 ·refine Sub.trans (sub_nil (t := 3) (S := 5) (Nat.le_of_ble_eq_true rfl) rfl) ?_
  refine keep_env (by first | exact Nat.zero_le _ | exact Nat.le_of_ble_eq_true rfl) ?_ ?_ trivial
  ·repeat' first | exact trivial | refine ⟨⟨by first | rfl | assumption | (show AV.sl 3 5 0 0 0 false = AV.sl 3 5 0 (w - w) (w - w) false; rw [Nat.sub_self]) | rfl, rfl⟩, ?_⟩
  ·repeat' first | exact trivial | refine ⟨⟨ltB rfl, _, rfl, by first | rfl | assumption | (show some (Blk.arr 5 []) = some (dblk 5 ((List.range (w - w)).map _)); rw [Nat.sub_self]; rfl) | (show some (Blk.ren _ (dblk 4 _)) = _; rw [ren_dblk]), by first | exact below1 rfl | exact below_dblk _ _ _ | exact below_arr rfl⟩, ?_⟩
 ·intro n A_n h_n I_n N_n
  have e_n : iadd .i64 (n : Int) 1 = ((n + 1 : Nat) : Int) := iadd_nat (by first | omega | (simp at *; omega))
  have hok := hrun n (by omega)
  have hnx : flN w l (n + 1) = flS w n (flN w l n) := rfl
  unfold flS at hnx
  generalize hR : flN w l n = s at hok hnx ⊢
  obtain ⟨rf, m, of⟩ := s
  have hm := hok.le
  have hrv := fun j (hj : j < m) => flok_r hok hj
  have hov := fun j (hj : j < w - m) => flok_o hok hj
  have hrz := hok.z
  dsimp only at hm hrv hov hrz hnx ⊢
  have hidx := idx180 (G := GG) ((List.range m).map rf) false 181 [] [.rop [iD n] 0] (fun q => bitB q (2 * n : Nat)) (by simp; omega) fun q _ => has181 q n
  have hif := idx_fnd (rf := rf) (n := m) (c := 2 * n) (a := 0) (Nat.zero_le _)
  rw [List.drop_zero] at hif
  rw [hif] at hidx
  clear hif
  conv => whnf
  repeat (refine LookP.mk _ rfl ?_; conv => whnf)
  intro t ht
  cases t
  ·exfalso; first | (simp at ht; done) | (simp at ht; omega)
  conv => whnf
  repeat' first | ((first | refine LookP.mk _ rfl ?_ | refine ShlP.mk _ (by first | (simp only [List.set, over, List.take, List.drop, List.append_eq, List.nil_append, List.cons_append, List.length]; rfl) | rfl) ?_ | refine And.intro (by first | assumption | exact ⟨by kernel_rfl, rfl⟩ | decide | omega | exact ⟨rfl, by decide, by simp only [List.length_map, Nat.zero_add]; omega⟩) ?_ | refine HpP.force ?_); conv => whnf) | (intro t ht; cases t <;> conv => whnf)
  cases hf : fndO rf m (2 * n) 0 with
  | none =>
   rw [hf] at hidx hnx
   dsimp only at hidx hnx
   refine pc_lend2 hidx (asD_rows rfl hm) (asD_fn1 (asD_rop rfl)) rfl ?_
   conv => whnf
   repeat' first | ((first | refine LookP.mk _ rfl ?_ | refine ShlP.mk _ (by first | (simp only [List.set, over, List.take, List.drop, List.append_eq, List.nil_append, List.cons_append, List.length]; rfl) | rfl) ?_ | refine And.intro (by first | assumption | exact ⟨by kernel_rfl, rfl⟩ | decide | omega | exact ⟨rfl, by decide, by simp only [List.length_map, Nat.zero_add]; omega⟩) ?_ | refine HpP.force ?_); conv => whnf) | (intro t ht; cases t <;> conv => whnf)
   ·exact absurd ht (by decide)
   ·rw [hnx] at N_n
    refine N_n _ ?_ ?_
    ·first | trivial | assumption | omega
    ·refine keep_env (by first | exact Nat.zero_le _ | exact Nat.le_of_ble_eq_true rfl) ?_ ?_ trivial
     ·repeat' first | exact trivial | refine ⟨⟨by first | rfl | assumption | exact congrArg (fun n => AV.d (iD n)) e_n, rfl⟩, ?_⟩
     ·repeat' first | exact trivial | refine ⟨⟨ltB rfl, _, rfl, by first | rfl | assumption, by first | exact below1 rfl | exact below_dblk _ _ _ | exact below_arr rfl⟩, ?_⟩
  | some f =>
   rw [hf] at hidx hnx
   dsimp only at hidx hnx
   rw [Nat.sub_zero] at hidx
   obtain ⟨_, hf1, hf2, _⟩ := fndO_some hf
   refine pc_lend2 hidx (asD_rows rfl hm) (asD_fn1 (asD_rop rfl)) rfl ?_
   conv => whnf
   repeat' first | ((first | refine LookP.mk _ (by first | rfl | exact get_rw (f := fun j => Ps.l (rf j)) (show f < w by omega)) ?_ | refine ShlP.mk _ (by first | (simp only [List.set, over, List.take, List.drop, List.append_eq, List.nil_append, List.cons_append, List.length]; rfl) | rfl) ?_ | refine And.intro (by first | exact ⟨Int.natCast_nonneg _, by omega⟩ | assumption | exact ⟨by kernel_rfl, rfl⟩ | decide | omega | exact ⟨rfl, by decide, by simp only [List.length_map, Nat.zero_add]; omega⟩) ?_ | refine HpP.force ?_); conv => whnf) | (intro t ht; cases t <;> conv => whnf)
   ·have e1 : iadd .i64 (f : Int) 1 = ((f + 1 : Nat) : Int) := iadd_nat (b := 1) (by omega)
    have hne : ((f : Int) == ((f + 1 : Nat) : Int)) = false := by simp; omega
    rw [e1]
    refine call_walk pok Tryz.func182 chk182 ?_
    conv => whnf
    have hbq : (w - 0).beq ((f : Int).toNat - 0) = false := by
     rw [Int.toNat_natCast]
     cases e : (w - 0).beq (f - 0) with
     | false => rfl
     | true => have := Nat.eq_of_beq_eq_true e; omega
    have hl2 : (f : Int).toNat - 0 + (((List.range (m - 1 - f)).map fun j => Ps.l (rf (f + 1 + j))).map fun el => el.map AV.d).length = m - 1 := by simp; omega
    have hcl2 : 0 + 0 + ((m - 1 : Nat) : Int).toNat + ((m : Int).toNat - ((m - 1 : Nat) : Int).toNat) ≤ (((List.range w).map fun j => Ps.l (mvF rf m f j)).map fun el => el.map AV.d).length := by rw [Int.toNat_natCast, Int.toNat_natCast]; simp; omega
    have hfl2 : 0 + ((f + 1 : Nat) : Int).toNat + (m - ((f + 1 : Nat) : Int).toNat) ≤ (((List.range w).map fun j => Ps.l (rf j)).map fun el => el.map AV.d).length := by simp; omega
    repeat' first | ((first | refine LookP.mk _ rfl ?_ | refine ShlP.mk _ (by first | exact dtail_rows rf hm hf1 | exact over_rows rf hm hf1 | exact clear_rows rf hm hf1 hrz | (simp only [List.set, over, List.take, List.drop, List.append_eq, List.nil_append, List.cons_append, List.length]; rfl) | rfl) ?_ | (refine And.intro (by first | exact ⟨Int.natCast_nonneg _, by omega⟩ | exact hfl2 | exact (by rw [hl2]; simp; omega) | exact hcl2 | assumption | exact ⟨by kernel_rfl, rfl⟩ | decide | omega | exact ⟨rfl, by decide, by simp only [List.length_map, Nat.zero_add]; omega⟩) ?_) | refine knownB hne ?_ | rw [scal_rows] | rw [hbq] | rw [hl2] | refine HpP.force ?_); conv => whnf) | (intro t ht; cases t <;> conv => whnf)
    have hFv := hrv f hf1
    have hdv : ∀ j, j < m - 1 → Vl w (dlt rf f j) := fun j hj => by
     unfold dlt
     split
     ·exact hrv j (by omega)
     ·exact hrv (j + 1) (by omega)
    have hdz : ∀ j, m - 1 ≤ j → dlt rf f j = Ps.z0 := fun j hj => by
     unfold dlt
     rw [if_neg (by omega), hrz (j + 1) (by omega)]
    rw [bitB_x hw.2 h_n hFv] at hf2
    generalize rf f = F at hFv hnx hf2 ⊢
    generalize dlt rf f = d at hdv hdz hnx ⊢
    refine for_use pok (fun i => ⟨[(3, .sl 3 5 0 (w - m) (w - m) false), (4, .sl 2 4 0 (m - 1) w false), (5, .ptr 4 1 0 0), (7, .ptr 5 5 0 0), (20, .d (iD w)), (21, .d (iD n)), (41, .d (iD (m - 1 : Nat))), (42, .d (iD i))], [(2, some (dblk 4 ((List.range w).map fun j => Ps.l (if j < i then clrX F n (d j) else d j)))), (3, some (dblk 5 ((List.range (w - m)).map fun j => fpL (of j)))), (4, some (.arr 1 [[.d (iD n)]])), (5, some (.arr 5 [(fpL (n, F)).map AV.d]))], 6⟩) ((m - 1)) (fun _ => True) (trivial) ?_ (by kernel_rfl) ?_ ?_
    ·refine keep_env (by first | exact Nat.zero_le _ | exact Nat.le_of_ble_eq_true rfl) ?_ ?_ trivial
     ·repeat' first | exact trivial | refine ⟨⟨by first | rfl | assumption, rfl⟩, ?_⟩
     ·repeat' first | exact trivial | refine ⟨⟨ltB rfl, _, rfl, by first | rfl | assumption, by first | exact below1 rfl | exact below_dblk _ _ _ | exact below_arr rfl⟩, ?_⟩
    ·intro i A_i h_i I_i N_i
     have e_i : iadd .i64 (i : Int) 1 = ((i + 1 : Nat) : Int) := iadd_nat (by first | omega | (simp at *; omega))
     have hdi := hdv i h_i
     have hiw : i < w := by omega
     have hb : (iand .i64 (ishr .i64 (d i).x (n : Int)) 1 == 1) = xB (d i) n := by
      rw [← bitI_x hw.2 h_n hdi, Bool.eq_iff_iff, decide_eq_true_iff, beq_iff_eq]; rfl
     have hro : (fun j => Ps.l (if j < i then clrX F n (d j) else d j)) i = Ps.l (d i) := by dsimp only; rw [if_neg (Nat.lt_irrefl i)]
     have hst : ∀ j, (if j = i then Ps.l (clrX F n (d i)) else Ps.l (if j < i then clrX F n (d j) else d j)) = Ps.l (if j < i + 1 then clrX F n (d j) else d j) := fun j => by
      by_cases e : j = i
      ·rw [if_pos e, if_pos (by omega), e]
      ·have : (j < i + 1) ↔ (j < i) := by omega
       simp only [if_neg e, this]
     have hcx : clrX F n (d i) = if xB (d i) n = true then mulS (d i) F else d i := rfl
     have ht2 := times183v (G := GG) hw (d i) [F] true (by simp) hdi (by intro y hy; rw [List.mem_singleton.1 hy]; exact hFv)
     have hme : ([F].foldl mulS (d i)) = mulS (d i) F := rfl
     rw [hme] at ht2
     generalize mulS (d i) F = mm at ht2 hcx
     conv => whnf
     repeat (refine LookP.mk _ rfl ?_; conv => whnf)
     intro t ht
     cases t
     ·exfalso; first | (simp at ht; done) | (simp at ht; omega)
     conv => whnf
     cases hbb : xB (d i) n with
     | false =>
      rw [hbb] at hb hcx
      rw [if_neg (by decide)] at hcx
      have hsame : ∀ j, Ps.l (if j < i then clrX F n (d j) else d j) = Ps.l (if j < i + 1 then clrX F n (d j) else d j) := fun j => by
       rw [← hst j]
       by_cases e : j = i
       ·rw [if_pos e, if_neg (by omega), hcx, e]
       ·rw [if_neg e]
      repeat' first | ((first | refine LookP.mk _ (by first | rfl | exact get_rwE hiw hro) ?_ | refine ShlP.mk _ (by first | (simp only [List.set, over, List.take, List.drop, List.append_eq, List.nil_append, List.cons_append, List.length]; rfl) | rfl) ?_ | refine And.intro (by first | exact ⟨Int.natCast_nonneg _, by omega⟩ | assumption | exact ⟨by kernel_rfl, rfl⟩ | decide | omega | exact ⟨rfl, by decide, by simp only [List.length_map, Nat.zero_add]; omega⟩) ?_ | refine knownB hb ?_ | refine HpP.force ?_); conv => whnf) | (intro t ht; cases t <;> conv => whnf)
      refine N_i _ ?_ ?_
      ·first | trivial | assumption | omega
      ·refine keep_env (by first | exact Nat.zero_le _ | exact Nat.le_of_ble_eq_true rfl) ?_ ?_ trivial
       ·repeat' first | exact trivial | refine ⟨⟨by first | rfl | assumption | exact congrArg (fun n => AV.d (iD n)) e_i, rfl⟩, ?_⟩
       ·repeat' first | exact trivial | refine ⟨⟨ltB rfl, _, rfl, by first | rfl | assumption | exact congrArg some (psB_congr hsame), by first | exact below1 rfl | exact below_dblk _ _ _ | exact below_arr rfl⟩, ?_⟩
     | true =>
      rw [hbb] at hb hcx
      rw [if_pos rfl] at hcx
      rw [hcx] at hst
      have hst2 : ∀ j, (if j = i then [iD mm.w, iD mm.x, iD mm.z, iD mm.p] else Ps.l (if j < i then clrX F n (d j) else d j)) = Ps.l (if j < i + 1 then clrX F n (d j) else d j) := hst
      repeat' first | ((first | refine LookP.mk _ (by first | rfl | exact get_rwE hiw hro) ?_ | refine ShlP.mk _ (by first | exact set_rw (x := [_, _, _, _]) hiw | (simp only [List.set, over, List.take, List.drop, List.append_eq, List.nil_append, List.cons_append, List.length]; rfl) | rfl) ?_ | refine And.intro (by first | exact ⟨Int.natCast_nonneg _, by omega⟩ | assumption | exact ⟨by kernel_rfl, rfl⟩ | decide | omega | exact ⟨rfl, by decide, by simp only [List.length_map, Nat.zero_add]; omega⟩) ?_ | refine knownB hb ?_ | refine pc_use ht2 ?_ | refine pc_head ht2 ?_ | refine HpP.force ?_); conv => whnf) | (intro t ht; cases t <;> conv => whnf)
      refine N_i _ ?_ ?_
      ·first | trivial | assumption | omega
      ·refine keep_env (by first | exact Nat.zero_le _ | exact Nat.le_of_ble_eq_true rfl) ?_ ?_ trivial
       ·repeat' first | exact trivial | refine ⟨⟨by first | rfl | assumption | exact congrArg (fun n => AV.d (iD n)) e_i, rfl⟩, ?_⟩
       ·repeat' first | exact trivial | refine ⟨⟨ltB rfl, _, rfl, by first | rfl | assumption | exact congrArg some (psB_congr hst2), by first | exact below1 rfl | exact below_dblk _ _ _ | exact below_arr rfl⟩, ?_⟩
    ·intro A_last I_last
     have e2 : (fun j => Ps.l (if j < m - 1 then clrX F n (d j) else d j)) = fun j => Ps.l (clrX F n (d j)) := funext fun j => by
      by_cases e : j < m - 1
      ·rw [if_pos e]
      ·rw [if_neg e, hdz j (by omega), clrX_z0]
     rw [e2]
     conv => whnf
     repeat (refine LookP.mk _ rfl ?_; conv => whnf)
     intro t ht
     cases t
     rotate_left
     ·exfalso; first | (simp at ht; done) | (simp at ht; omega)
     conv => whnf
     repeat' first | ((first | refine LookP.mk _ rfl ?_ | refine ShlP.mk _ (by first | (simp only [List.set, over, List.take, List.drop, List.append_eq, List.nil_append, List.cons_append, List.length]; rfl) | rfl) ?_ | refine And.intro (by first | assumption | exact ⟨by kernel_rfl, rfl⟩ | decide | omega | exact ⟨rfl, by decide, by simp only [List.length_map, Nat.zero_add]; omega⟩) ?_ | refine HpP.force ?_); conv => whnf) | (intro t ht; cases t <;> conv => whnf)
     refine for_use pok (fun k => ⟨[(3, .sl 3 5 0 (w - m) (w - m) false), (4, .sl 2 4 0 (m - 1) w false), (5, .ptr 4 1 0 0), (7, .ptr 5 5 0 0), (20, .d (iD w)), (21, .d (iD n)), (67, .d (iD (w - m : Nat))), (68, .d (iD k))], [(2, some (dblk 4 ((List.range w).map fun j => Ps.l (clrX F n (d j))))), (3, some (dblk 5 ((List.range (w - m)).map fun j => fpL (if j < k then ((of j).1, clrX F n (of j).2) else of j)))), (4, some (.arr 1 [[.d (iD n)]])), (5, some (.arr 5 [(fpL (n, F)).map AV.d]))], 6⟩) ((w - m)) (fun _ => True) (trivial) ?_ (by kernel_rfl) ?_ ?_
     ·refine keep_env (by first | exact Nat.zero_le _ | exact Nat.le_of_ble_eq_true rfl) ?_ ?_ trivial
      ·repeat' first | exact trivial | refine ⟨⟨by first | rfl | assumption, rfl⟩, ?_⟩
      ·repeat' first | exact trivial | refine ⟨⟨ltB rfl, _, rfl, by first | rfl | assumption, by first | exact below1 rfl | exact below_dblk _ _ _ | exact below_arr rfl⟩, ?_⟩
     ·intro k A_k h_k I_k N_k
      have e_k : iadd .i64 (k : Int) 1 = ((k + 1 : Nat) : Int) := iadd_nat (by first | omega | (simp at *; omega))
      have hok' := (hov k h_k).1
      have hb : (iand .i64 (ishr .i64 (of k).2.x (n : Int)) 1 == 1) = xB (of k).2 n := by
       rw [← bitI_x hw.2 h_n hok', Bool.eq_iff_iff, decide_eq_true_iff, beq_iff_eq]; rfl
      have hro : (fun j => fpL (if j < k then ((of j).1, clrX F n (of j).2) else of j)) k = fpL (of k) := by dsimp only; rw [if_neg (Nat.lt_irrefl k)]
      have hst : ∀ j, (if j = k then fpL ((of k).1, clrX F n (of k).2) else fpL (if j < k then ((of j).1, clrX F n (of j).2) else of j)) = fpL (if j < k + 1 then ((of j).1, clrX F n (of j).2) else of j) := fun j => by
       by_cases e : j = k
       ·rw [if_pos e, if_pos (by omega), e]
       ·have : (j < k + 1) ↔ (j < k) := by omega
        simp only [if_neg e, this]
      have hcx : clrX F n (of k).2 = if xB (of k).2 n = true then mulS (of k).2 F else (of k).2 := rfl
      have ht2 := times183v (G := GG) hw (of k).2 [F] true (by simp) hok' (by intro y hy; rw [List.mem_singleton.1 hy]; exact hFv)
      have hme : ([F].foldl mulS (of k).2) = mulS (of k).2 F := rfl
      rw [hme] at ht2
      generalize mulS (of k).2 F = mm at ht2 hcx
      conv => whnf
      repeat (refine LookP.mk _ rfl ?_; conv => whnf)
      intro t ht
      cases t
      ·exfalso; first | (simp at ht; done) | (simp at ht; omega)
      conv => whnf
      cases hbb : xB (of k).2 n with
      | false =>
       rw [hbb] at hb hcx
       rw [if_neg (by decide)] at hcx
       have hsame : ∀ j, fpL (if j < k then ((of j).1, clrX F n (of j).2) else of j) = fpL (if j < k + 1 then ((of j).1, clrX F n (of j).2) else of j) := fun j => by
        rw [← hst j]
        by_cases e : j = k
        ·rw [if_pos e, if_neg (by omega), hcx, e]
        ·rw [if_neg e]
       repeat' first | ((first | refine LookP.mk _ (by first | rfl | exact get_rwE h_k hro) ?_ | refine ShlP.mk _ (by first | (simp only [List.set, over, List.take, List.drop, List.append_eq, List.nil_append, List.cons_append, List.length]; rfl) | rfl) ?_ | refine And.intro (by first | exact ⟨Int.natCast_nonneg _, by omega⟩ | assumption | exact ⟨by kernel_rfl, rfl⟩ | decide | omega | exact ⟨rfl, by decide, by simp only [List.length_map, Nat.zero_add]; omega⟩) ?_ | refine knownB hb ?_ | refine HpP.force ?_); conv => whnf) | (intro t ht; cases t <;> conv => whnf)
       refine N_k _ ?_ ?_
       ·first | trivial | assumption | omega
       ·refine keep_env (by first | exact Nat.zero_le _ | exact Nat.le_of_ble_eq_true rfl) ?_ ?_ trivial
        ·repeat' first | exact trivial | refine ⟨⟨by first | rfl | assumption | exact congrArg (fun n => AV.d (iD n)) e_k, rfl⟩, ?_⟩
        ·repeat' first | exact trivial | refine ⟨⟨ltB rfl, _, rfl, by first | rfl | assumption | exact congrArg some (dB_congr hsame), by first | exact below1 rfl | exact below_dblk _ _ _ | exact below_arr rfl⟩, ?_⟩
      | true =>
       rw [hbb] at hb hcx
       rw [if_pos rfl] at hcx
       rw [hcx] at hst
       have hst2 : ∀ j, (if j = k then [iD ((of k).1 : Int), iD mm.w, iD mm.x, iD mm.z, iD mm.p] else fpL (if j < k then ((of j).1, clrX F n (of j).2) else of j)) = fpL (if j < k + 1 then ((of j).1, clrX F n (of j).2) else of j) := hst
       repeat' first | ((first | refine LookP.mk _ (by first | rfl | exact get_rwE h_k hro) ?_ | refine ShlP.mk _ (by first | exact set_rw (x := [_, _, _, _, _]) h_k | (simp only [List.set, over, List.take, List.drop, List.append_eq, List.nil_append, List.cons_append, List.length]; rfl) | rfl) ?_ | refine And.intro (by first | exact ⟨Int.natCast_nonneg _, by omega⟩ | assumption | exact ⟨by kernel_rfl, rfl⟩ | decide | omega | exact ⟨rfl, by decide, by simp only [List.length_map, Nat.zero_add]; omega⟩) ?_ | refine knownB hb ?_ | refine pc_use ht2 ?_ | refine pc_head ht2 ?_ | refine HpP.force ?_); conv => whnf) | (intro t ht; cases t <;> conv => whnf)
       refine N_k _ ?_ ?_
       ·first | trivial | assumption | omega
       ·refine keep_env (by first | exact Nat.zero_le _ | exact Nat.le_of_ble_eq_true rfl) ?_ ?_ trivial
        ·repeat' first | exact trivial | refine ⟨⟨by first | rfl | assumption | exact congrArg (fun n => AV.d (iD n)) e_k, rfl⟩, ?_⟩
        ·repeat' first | exact trivial | refine ⟨⟨ltB rfl, _, rfl, by first | rfl | assumption | exact congrArg some (dB_congr hst2), by first | exact below1 rfl | exact below_dblk _ _ _ | exact below_arr rfl⟩, ?_⟩
     ·intro A_last I_last
      rw [hnx] at N_n
      dsimp only at N_n
      have eW : w - (m - 1) = w - m + 1 := by omega
      have hsn : (List.range (w - m + 1)).map (fun j => fpL (if j < w - m then ((of j).1, clrX F n (of j).2) else (n, F))) = ((List.range (w - m)).map fun j => fpL (if j < w - m then ((of j).1, clrX F n (of j).2) else of j)) ++ [fpL (n, F)] := by
       rw [List.range_succ, List.map_append]
       congr 1
       ·refine List.map_congr_left fun j hj => ?_
        rw [if_pos (List.mem_range.1 hj), if_pos (List.mem_range.1 hj)]
       ·simp only [List.map_cons, List.map_nil]
        rw [if_neg (Nat.lt_irrefl _)]
      rw [eW, hsn] at N_n
      have hql : ((List.range (w - m)).map fun j => fpL (if j < w - m then ((of j).1, clrX F n (of j).2) else of j)).length = w - m := by simp
      generalize ((List.range (w - m)).map fun j => fpL (if j < w - m then ((of j).1, clrX F n (of j).2) else of j)) = Q at hql N_n ⊢
      have hqm : (2 * (w - m + 1) + 192) * 40 ≤ 281474976710656 := by omega
      conv => whnf
      repeat (refine LookP.mk _ rfl ?_; conv => whnf)
      intro t ht
      cases t
      rotate_left
      ·exfalso; first | (simp at ht; done) | (simp at ht; omega)
      conv => whnf
      repeat' first | ((first | refine LookP.mk _ rfl ?_ | refine ShlP.mk _ (by first | (simp only [List.set, over, List.take, List.drop, List.append_eq, List.nil_append, List.cons_append, List.length]; rfl) | rfl) ?_ | refine And.intro (by first | exact Nat.le_refl _ | exact ⟨by rw [List.length_map]; exact hql, by decide, hqm⟩ | assumption | exact ⟨by kernel_rfl, rfl⟩ | decide | omega | exact ⟨rfl, by decide, by simp only [List.length_map, Nat.zero_add]; omega⟩) ?_ | rw [nbeq] | refine HpP.force ?_); conv => whnf) | (intro t ht; cases t <;> conv => whnf)
      refine N_n _ ?_ ?_
      ·first | trivial | assumption | omega
      ·first | refine ren_env [(3, 7)] ?_ ?_ ?_ trivial | refine ren_envB [(3, 7)] rfl rfl ?_ ?_ ?_ trivial
       ·repeat' first | exact trivial | refine ⟨⟨by first | rfl | assumption | exact congrArg (fun n => AV.d (iD n)) e_n, rfl⟩, ?_⟩
       ·repeat' first | exact trivial | refine ⟨⟨ltB rfl, _, rfl, by first | rfl | assumption | exact get_ren rfl (by first | rfl | assumption | exact get_ren rfl (congrArg some (dblk_snoc rfl))) | exact get_ren rfl (congrArg some (dblk_snoc rfl)), by first | exact below1 rfl | exact below_dblk _ _ _ | exact below_arr rfl⟩, ?_⟩
       ·repeat' first | exact trivial | (refine And.intro ?_ ?_) | (exact fun _ => rfl) | (exact fun h => absurd h (Nat.ne_of_beq_eq_false rfl))
   ·exfalso; simp at ht; exact absurd ht (Int.not_lt.2 (Int.natCast_nonneg _))
 ·intro A_last I_last
  conv => whnf
  repeat (refine LookP.mk _ rfl ?_; conv => whnf)
  intro t ht
  cases t
  rotate_left
  ·exfalso; first | (simp at ht; done) | (simp at ht; omega)
  conv => whnf
  repeat' first | ((first | refine LookP.mk _ rfl ?_ | refine ShlP.mk _ (by first | (simp only [List.set, over, List.take, List.drop, List.append_eq, List.nil_append, List.cons_append, List.length]; rfl) | rfl) ?_ | refine And.intro (by first | assumption | exact ⟨by kernel_rfl, rfl⟩ | decide | omega | exact ⟨rfl, by decide, by simp only [List.length_map, Nat.zero_add]; omega⟩) ?_ | refine HpP.force ?_); conv => whnf) | (intro t ht; cases t <;> conv => whnf)
  refine fin ⟨3, ?_, ?_⟩
  ·rw [List.length_map, List.length_range]
  ·rw [List.map_map]; rfl
theorem flips96 {w : Nat} {l : List Ps} (hw : 1 ≤ w ∧ w ≤ 12) (hlen : l.length = w) (hv : ∀ q, q ∈ l → Vl w q) (hG : Good (l.map nf)) : PC Pr GG 96 [wkD w l] (fpD (flA w (flN w l w)) false) := by
 refine pc_two (isFn_of Tryz.func96 chk96) (acall_mono (flips96a hw hlen hv hG) ?_)
 rintro v H _ ⟨nm, rfl, hg⟩
 exact asD_dblk hg (by simp)
end Go.Tz
namespace Go.Tz
open Go Go.AL Go.Proofs Go.Ma
theorem measure136ct {w n o : Nat} (hw : 1 ≤ w ∧ w ≤ 12) (hn : n < w) (ho : o ≤ 1) (F : FuncId) {rf : Nat → Ps} {a0 : Nat} {R : List Nat} (hpv : Vl w (zP w n o)) (hvl : ∀ j, j < w → Vl w (rf j)) (hA : antL (zP w n o) rf w = a0 :: R)
  (hx2 : PC Pr GG 107 [.agg [iD w, .sl ((List.range w).map fun j => Ps.l (rf j)) true], (zP w n o).d] (iD 0)) :
  ACall Pr GG 136 [.ptr 2 3 0 0, .d (iD n), .d (iD o)] [(2, some (wkF w 10 F)), (10, some (dblk 4 ((List.range w).map fun j => Ps.l (rf j))))] 12 fun v H n' => v = .d (.tup [iD 1, iD 0]) ∧ H.get 2 = some (wkF w 12 F) ∧ H.get 12 = some (dblk 4 ((redRows (rowsL w (prjF rf (zP w n o) a0 R)) (2 * w)).map Ps.l)) ∧ n' = 13 := by
 have hsh : ishl .i64 1 (n : Int) = ((2 ^ n : Nat) : Int) := pow_nat (by omega)
 have him : imul .i64 2 (o : Int) = ((2 * o : Nat) : Int) := imul_nat (a := 2) (by omega)
 have hPv := prjF_vl hw.2 hvl hpv (ant_spec hA).1 (R := R)
 have hcan := canon105o (G := GG) hw (rowsL w (prjF rf (zP w n o) a0 R)) true (by simp; omega) (fun q hq => by
  obtain ⟨j, hj, rfl⟩ := List.mem_map.1 hq
  exact hPv j (List.mem_range.1 hj))
 obtain ⟨sp1, sp2, sp3, sp4⟩ := ant_spec hA
 have hno : (∀ j, j < w → comV (zP w n o) (rf j) = true) → False := fun h => by
  have := h a0 sp1
  rw [sp2] at this; cases this
 have hcan2 : PO Pr GG 105 [.agg [iD w, .sl ((List.range w).map fun j => Ps.l (prjF rf (zP w n o) a0 R j)) true]] (.agg [.d (iD w), .sl 0 4 0 w w true]) [(0, some (dblk 4 ((redRows (rowsL w (prjF rf (zP w n o) a0 R)) (2 * w)).map Ps.l)))] 1 := by
  have eR : (rowsL w (prjF rf (zP w n o) a0 R)).map Ps.l = (List.range w).map fun j => Ps.l (prjF rf (zP w n o) a0 R j) := by unfold rowsL; rw [List.map_map]; rfl
  have eL : (rowsL w (prjF rf (zP w n o) a0 R)).length = w := by simp
  rw [← eR]
  rw [eL] at hcan
  exact hcan
 clear hcan
 have hRm : ∀ j, j ∈ R ↔ j < w ∧ j ≠ a0 ∧ comV (zP w n o) (rf j) = false := fun j => by
  have hm : j ∈ a0 :: R ↔ j < w ∧ comV (zP w n o) (rf j) = false := by
   rw [← hA]; unfold antL; rw [List.mem_filter, List.mem_range]; simp
  have hnd : (a0 :: R).Nodup := by rw [← hA]; exact (List.nodup_range).filter _
  have haR : a0 ∉ R := (List.nodup_cons.1 hnd).1
  constructor
  ·intro h
   have := hm.1 (List.mem_cons_of_mem _ h)
   exact ⟨this.1, fun q => haR (q ▸ h), this.2⟩
  ·rintro ⟨h1, h2, h3⟩
   rcases List.mem_cons.1 (hm.2 ⟨h1, h3⟩) with q | q
   ·exact absurd q h2
   ·exact q
 have hB0 : chkCode Tryz.f136.ntmps (rgI Tryz.f136 0).2 = true := by kernel_rfl
 have hB1 : chkCode Tryz.f136.ntmps (rgI Tryz.f136 1).2 = true := by kernel_rfl
 refine acall_sub (fn_walk pok Tryz.func136 chk136 (K := fun v H m => v = .d (.tup [iD 1, iD 0]) ∧ H.get 2 = some (wkF w 24 F) ∧ H.get 24 = some (dblk 4 ((redRows (rowsL w (prjF rf (zP w n o) a0 R)) (2 * w)).map Ps.l))) ?_) ?_
 ·conv => whnf
  repeat' first | ((first | refine LookP.mk _ (by first | rfl | exact lendW rfl (by simp)) ?_ | refine ShlP.mk _ (by first | (simp only [List.set, over, List.take, List.drop, List.append_eq, List.nil_append, List.cons_append, List.length]; rfl) | rfl) ?_ | refine And.intro (by first | assumption | exact ⟨by kernel_rfl, rfl⟩ | decide | omega | exact ⟨rfl, by decide, by simp only [List.length_map, Nat.zero_add]; omega⟩) ?_ | rw [hsh] | rw [him] | refine spine_rd (l := [10]) (rd_call rfl rfl (show _ = some (dblk 4 ((List.range w).map fun j => Ps.l (rf j))) from rfl)) ?_ | refine pc_use hx2 ?_ | refine pc_head hx2 ?_ | refine beqT1 ?_ | refine beqF1 rfl ?_ | refine HpP.force ?_); conv => whnf) | (intro t ht; cases t <;> conv => whnf)
  refine call_walk pok Tryz.func195 chk195 ?_
  conv => whnf
  repeat' first | ((first | refine LookP.mk _ rfl ?_ | refine ShlP.mk _ (by first | (simp only [List.set, over, List.take, List.drop, List.append_eq, List.nil_append, List.cons_append, List.length]; rfl) | rfl) ?_ | refine And.intro (by first | assumption | exact ⟨by kernel_rfl, rfl⟩ | decide | omega | exact ⟨rfl, by decide, by simp only [List.length_map, Nat.zero_add]; omega⟩) ?_ | refine HpP.force ?_); conv => whnf) | (intro t ht; cases t <;> conv => whnf)
  refine call_walk pok Tryz.func247 chk247 ?_
  conv => whnf
  repeat' first | ((first | refine LookP.mk _ rfl ?_ | refine ShlP.mk _ (by first | (simp only [List.set, over, List.take, List.drop, List.append_eq, List.nil_append, List.cons_append, List.length]; rfl) | rfl) ?_ | refine And.intro (by first | assumption | exact ⟨by kernel_rfl, rfl⟩ | decide | omega | exact ⟨rfl, by decide, by simp only [List.length_map, Nat.zero_add]; omega⟩) ?_ | refine HpP.force ?_); conv => whnf) | (intro t ht; cases t <;> conv => whnf)
  refine for_use pok (fun i => ⟨[(0, .yld 18), (4, .d (.fn 114 [.agg [iD w, iD 0, iD ((2 ^ n : Nat) : Int), iD ((2 * o : Nat) : Int)]] [])), (14, .sl 10 4 0 w w true), (15, .d (iD w)), (16, .d (iD i))], [(2, some (wkF w 10 F)), (10, some (dblk 4 ((List.range w).map fun j => Ps.l (rf j)))), (12, some (.arr 1 [[.ptr 2 3 0 0]])), (13, some (.arr 4 [[.d (iD w), .d (iD 0), .d (iD ((2 ^ n : Nat) : Int)), .d (iD ((2 * o : Nat) : Int))]])), (14, some (.arr 1 [[.d (iD (-1))]])), (15, some (.arr 1 [[.ptr 2 3 0 0]])), (16, some (.arr 4 [[.d (iD w), .d (iD 0), .d (iD ((2 ^ n : Nat) : Int)), .d (iD ((2 * o : Nat) : Int))]])), (17, some (.raw (.deferred (some [])))), (18, some (.lp [(34, .fn 247 [] [.ptr 16 4 0 0, .ptr 15 1 0 0]), (33, .d (.agg [iD w, iD 0, iD ((2 ^ n : Nat) : Int), iD ((2 * o : Nat) : Int)])), (32, .ptr 2 3 0 0), (9, .ptr 14 1 0 0), (30, .d (.bool false)), (31, .d (.bool false)), (28, .d (.bool false)), (29, .d (.bool false)), (27, .d (iD 0)), (26, .d (.agg [iD w, iD 0, iD ((2 ^ n : Nat) : Int), iD ((2 * o : Nat) : Int)])), (25, .agg [.d (iD w), .sl 10 4 0 w w true]), (24, .ptr 2 3 0 0), (23, .ptr 2 3 0 0), (22, .ptr 2 3 0 0), (8, .ptr 13 4 0 0), (21, .d (.agg [iD w, iD 0, iD ((2 ^ n : Nat) : Int), iD ((2 * o : Nat) : Int)])), (20, .d (iD ((2 * o : Nat) : Int))), (19, .d (iD o)), (18, .d (iD ((2 ^ n : Nat) : Int))), (17, .d (iD n)), (16, .d (iD w)), (15, .ptr 2 3 0 0), (14, .ptr 2 3 0 0), (13, .ptr 2 3 0 0), (12, .ptr 2 3 0 0), (7, .d (iD 0)), (6, .d (iD 0)), (3, .ptr 12 1 0 0), (0, .ptr 2 3 0 0), (1, .d (iD n)), (2, .d (iD o))] Tryz.f136.ntmps #[35] (rgI Tryz.f136 0).1 (rgI Tryz.f136 0).2 .ready none 17))], 19⟩) (w) (fun i => ∀ j, j < i → comV (zP w n o) (rf j) = true) (by omega) ?_ (by kernel_rfl) ?_ ?_
  ·refine keep_env (by first | exact Nat.zero_le _ | exact Nat.le_of_ble_eq_true rfl) ?_ ?_ trivial
   ·repeat' first | exact trivial | refine ⟨⟨by first | rfl | assumption, rfl⟩, ?_⟩
   ·repeat' first | exact trivial | refine ⟨⟨ltB rfl, _, rfl, by first | rfl | assumption, by first | exact below1 rfl | exact below_dblk _ _ _ | exact below_arr rfl | exact trivial | exact ⟨rfl, Nat.le_of_ble_eq_true rfl⟩⟩, ?_⟩
  ·intro i A_i h_i I_i N_i
   have e_i : iadd .i64 (i : Int) 1 = ((i + 1 : Nat) : Int) := iadd_nat (by first | omega | (simp at *; omega))
   have hc := with114 (G := GG) hw hpv (hvl i h_i)
   cases hb : comV (zP w n o) (rf i) with
   | true =>
    rw [hb] at hc
    conv => whnf
    repeat (refine LookP.mk _ rfl ?_; conv => whnf)
    intro t ht
    cases t
    ·exfalso; first | (simp at ht; done) | (simp at ht; omega)
    conv => whnf
    repeat' first | ((first | refine LookP.mk _ (by first | rfl | exact get_rw h_i) ?_ | refine ShlP.mk _ (by first | (simp only [List.set, over, List.take, List.drop, List.append_eq, List.nil_append, List.cons_append, List.length]; rfl) | rfl) ?_ | refine And.intro (by first | assumption | exact ⟨by kernel_rfl, rfl⟩ | decide | omega | exact ⟨rfl, by decide, by simp only [List.length_map, Nat.zero_add]; omega⟩) ?_ | refine pc_use hc ?_ | refine pc_head hc ?_ | refine HpP.force ?_); conv => whnf) | (intro t ht; cases t <;> conv => whnf)
    refine N_i _ ?_ ?_
    ·(intro j hj; rcases Nat.lt_or_ge j i with h | h; exact I_i j h; rw [show j = i by omega]; exact hb)
    ·refine keep_env (by first | exact Nat.zero_le _ | exact Nat.le_of_ble_eq_true rfl) ?_ ?_ trivial
     ·repeat' first | exact trivial | refine ⟨⟨by first | rfl | assumption | exact congrArg (fun n => AV.d (iD n)) e_i, rfl⟩, ?_⟩
     ·repeat' first | exact trivial | refine ⟨⟨ltB rfl, _, rfl, by first | rfl | assumption, by first | exact below1 rfl | exact below_dblk _ _ _ | exact below_arr rfl | exact trivial | exact ⟨rfl, Nat.le_of_ble_eq_true rfl⟩⟩, ?_⟩
   | false =>
    rw [hb] at hc
    have hia : i = a0 := by
     rcases Nat.lt_trichotomy i a0 with q | q | q
     ·have := sp3 i q
      rw [hb] at this; cases this
     ·exact q
     ·have := I_i a0 q
      rw [sp2] at this; cases this
    conv => whnf
    repeat (refine LookP.mk _ rfl ?_; conv => whnf)
    intro t ht
    cases t
    ·exfalso; first | (simp at ht; done) | (simp at ht; omega)
    conv => whnf
    repeat' first | ((first | refine LookP.mk _ (by first | rfl | exact get_rw h_i) ?_ | refine ShlP.mk _ (by first | (simp only [List.set, over, List.take, List.drop, List.append_eq, List.nil_append, List.cons_append, List.length]; rfl) | rfl) ?_ | refine And.intro (by first | assumption | exact ⟨by kernel_rfl, rfl⟩ | decide | omega | exact ⟨rfl, by decide, by simp only [List.length_map, Nat.zero_add]; omega⟩) ?_ | refine pc_use hc ?_ | refine pc_head hc ?_ | refine HpP.force ?_); conv => whnf) | (intro t ht; cases t <;> conv => whnf)
    refine round_walk pok ?_
    conv => whnf
    repeat' first | ((first | refine LookP.mk _ rfl ?_ | refine ShlP.mk _ (by first | (simp only [List.set, over, List.take, List.drop, List.append_eq, List.nil_append, List.cons_append, List.length]; rfl) | rfl) ?_ | refine And.intro (by first | assumption | exact ⟨by kernel_rfl, rfl⟩ | decide | omega | exact ⟨rfl, by decide, by simp only [List.length_map, Nat.zero_add]; omega⟩) ?_ | rw [hB0] | refine HpP.force ?_); conv => whnf) | (intro t ht; cases t <;> conv => whnf)
    refine call_walk pok Tryz.func195 chk195 ?_
    conv => whnf
    repeat' first | ((first | refine LookP.mk _ rfl ?_ | refine ShlP.mk _ (by first | (simp only [List.set, over, List.take, List.drop, List.append_eq, List.nil_append, List.cons_append, List.length]; rfl) | rfl) ?_ | refine And.intro (by first | assumption | exact ⟨by kernel_rfl, rfl⟩ | decide | omega | exact ⟨rfl, by decide, by simp only [List.length_map, Nat.zero_add]; omega⟩) ?_ | refine HpP.force ?_); conv => whnf) | (intro t ht; cases t <;> conv => whnf)
    refine call_walk pok Tryz.func247 chk247 ?_
    conv => whnf
    repeat' first | ((first | refine LookP.mk _ rfl ?_ | refine ShlP.mk _ (by first | (simp only [List.set, over, List.take, List.drop, List.append_eq, List.nil_append, List.cons_append, List.length]; rfl) | rfl) ?_ | refine And.intro (by first | assumption | exact ⟨by kernel_rfl, rfl⟩ | decide | omega | exact ⟨rfl, by decide, by simp only [List.length_map, Nat.zero_add]; omega⟩) ?_ | refine HpP.force ?_); conv => whnf) | (intro t ht; cases t <;> conv => whnf)
    refine for_use pok (fun m => ⟨[(0, .yld 23), (4, .d (.fn 114 [.agg [iD w, iD 0, iD ((2 ^ n : Nat) : Int), iD ((2 * o : Nat) : Int)]] [])), (14, .sl 10 4 0 w w true), (15, .d (iD w)), (16, .d (iD m))], [(2, some (wkF w 10 F)), (10, some (dblk 4 ((List.range w).map fun j => Ps.l (prS (zP w n o) rf a0 m j)))), (12, some (.arr 1 [[.ptr 2 3 0 0]])), (13, some (.arr 4 [[.d (iD w), .d (iD 0), .d (iD ((2 ^ n : Nat) : Int)), .d (iD ((2 * o : Nat) : Int))]])), (14, some (.arr 1 [[.d (iD a0)]])), (17, some (.raw (.deferred (some [])))), (20, some (.arr 1 [[.ptr 2 3 0 0]])), (21, some (.arr 4 [[.d (iD w), .d (iD 0), .d (iD ((2 ^ n : Nat) : Int)), .d (iD ((2 * o : Nat) : Int))]])), (22, some (.raw (.deferred (some [])))), (23, some (.lp [(39, .fn 247 [] [.ptr 21 4 0 0, .ptr 20 1 0 0]), (38, .d (.agg [iD w, iD 0, iD ((2 ^ n : Nat) : Int), iD ((2 * o : Nat) : Int)])), (37, .ptr 2 3 0 0), (34, .fn 247 [] [.ptr 16 4 0 0, .ptr 15 1 0 0]), (33, .d (.agg [iD w, iD 0, iD ((2 ^ n : Nat) : Int), iD ((2 * o : Nat) : Int)])), (32, .ptr 2 3 0 0), (9, .ptr 14 1 0 0), (30, .d (.bool false)), (31, .d (.bool false)), (28, .d (.bool false)), (29, .d (.bool false)), (27, .d (iD 0)), (26, .d (.agg [iD w, iD 0, iD ((2 ^ n : Nat) : Int), iD ((2 * o : Nat) : Int)])), (25, .agg [.d (iD w), .sl 10 4 0 w w true]), (24, .ptr 2 3 0 0), (23, .ptr 2 3 0 0), (22, .ptr 2 3 0 0), (8, .ptr 13 4 0 0), (21, .d (.agg [iD w, iD 0, iD ((2 ^ n : Nat) : Int), iD ((2 * o : Nat) : Int)])), (20, .d (iD ((2 * o : Nat) : Int))), (19, .d (iD o)), (18, .d (iD ((2 ^ n : Nat) : Int))), (17, .d (iD n)), (16, .d (iD w)), (15, .ptr 2 3 0 0), (14, .ptr 2 3 0 0), (13, .ptr 2 3 0 0), (12, .ptr 2 3 0 0), (7, .d (iD 0)), (6, .d (iD 0)), (3, .ptr 12 1 0 0), (0, .ptr 2 3 0 0), (1, .d (iD n)), (2, .d (iD o))] Tryz.f136.ntmps #[40] (rgI Tryz.f136 1).1 (rgI Tryz.f136 1).2 .ready none 22))], 24⟩) (w) (fun _ => True) (trivial) ?_ (by kernel_rfl) ?_ ?_
    ·refine keep_env (by first | exact Nat.zero_le _ | exact Nat.le_of_ble_eq_true rfl) ?_ ?_ trivial
     ·repeat' first | exact trivial | refine ⟨⟨by first | rfl | assumption, rfl⟩, ?_⟩
     ·repeat' first | exact trivial | refine ⟨⟨ltB rfl, _, rfl, by first | rfl | assumption | exact congrArg some (psB_congr fun j => by rw [prS_0]) | (rw [hia]; rfl), by first | exact below1 rfl | exact below_dblk _ _ _ | exact below_arr rfl | exact trivial | exact ⟨rfl, Nat.le_of_ble_eq_true rfl⟩⟩, ?_⟩
    ·intro m A_m h_m I_m N_m
     have e_m : iadd .i64 (m : Int) 1 = ((m + 1 : Nat) : Int) := iadd_nat (by first | omega | (simp at *; omega))
     have hcm := with114 (G := GG) hw hpv (hvl m h_m)
     have hst : ∀ j, (if j = m then Ps.l (prS (zP w n o) rf a0 (m + 1) m) else Ps.l (prS (zP w n o) rf a0 m j)) = Ps.l (prS (zP w n o) rf a0 (m + 1) j) := fun j => prS_step j
     have hgm : (fun j => Ps.l (prS (zP w n o) rf a0 m j)) m = Ps.l (rf m) := by dsimp only; rw [prS_at]
     cases hbm : comV (zP w n o) (rf m) with
     | true =>
      rw [hbm] at hcm
      have hsame : ∀ j, Ps.l (prS (zP w n o) rf a0 m j) = Ps.l (prS (zP w n o) rf a0 (m + 1) j) := fun j => by rw [prS_same (.inl hbm)]
      generalize prS (zP w n o) rf a0 m = g at hgm hsame hst
      conv => whnf
      repeat (refine LookP.mk _ rfl ?_; conv => whnf)
      intro t ht
      cases t
      ·exfalso; first | (simp at ht; done) | (simp at ht; omega)
      conv => whnf
      repeat' first | ((first | refine LookP.mk _ (by first | rfl | exact get_rwE h_m hgm) ?_ | refine ShlP.mk _ (by first | (simp only [List.set, over, List.take, List.drop, List.append_eq, List.nil_append, List.cons_append, List.length]; rfl) | rfl) ?_ | refine And.intro (by first | assumption | exact ⟨by kernel_rfl, rfl⟩ | decide | omega | exact ⟨rfl, by decide, by simp only [List.length_map, Nat.zero_add]; omega⟩) ?_ | refine pc_use hcm ?_ | refine pc_head hcm ?_ | refine HpP.force ?_); conv => whnf) | (intro t ht; cases t <;> conv => whnf)
      refine N_m _ ?_ ?_
      ·first | trivial | assumption | omega
      ·refine keep_env (by first | exact Nat.zero_le _ | exact Nat.le_of_ble_eq_true rfl) ?_ ?_ trivial
       ·repeat' first | exact trivial | refine ⟨⟨by first | rfl | assumption | exact congrArg (fun n => AV.d (iD n)) e_m, rfl⟩, ?_⟩
       ·repeat' first | exact trivial | refine ⟨⟨ltB rfl, _, rfl, by first | rfl | assumption | exact congrArg some (psB_congr hsame), by first | exact below1 rfl | exact below_dblk _ _ _ | exact below_arr rfl | exact trivial | exact ⟨rfl, Nat.le_of_ble_eq_true rfl⟩⟩, ?_⟩
     | false =>
      rw [hbm] at hcm
      by_cases hma : m = a0
      ·have hsame : ∀ j, Ps.l (prS (zP w n o) rf a0 m j) = Ps.l (prS (zP w n o) rf a0 (m + 1) j) := fun j => by rw [prS_same (.inr hma)]
       generalize prS (zP w n o) rf a0 m = g at hgm hsame hst
       generalize prS (zP w n o) rf a0 (m + 1) = g' at hsame hst N_m
       subst hma
       conv => whnf
       repeat (refine LookP.mk _ rfl ?_; conv => whnf)
       intro t ht
       cases t
       ·exfalso; first | (simp at ht; done) | (simp at ht; omega)
       conv => whnf
       repeat' first | ((first | refine LookP.mk _ (by first | rfl | exact get_rwE h_m hgm) ?_ | refine ShlP.mk _ (by first | (simp only [List.set, over, List.take, List.drop, List.append_eq, List.nil_append, List.cons_append, List.length]; rfl) | rfl) ?_ | refine And.intro (by first | assumption | exact ⟨by kernel_rfl, rfl⟩ | decide | omega | exact ⟨rfl, by decide, by simp only [List.length_map, Nat.zero_add]; omega⟩) ?_ | refine pc_use hcm ?_ | refine pc_head hcm ?_ | refine HpP.force ?_); conv => whnf) | (intro t ht; cases t <;> conv => whnf)
       refine round_walk pok ?_
       conv => whnf
       repeat' first | ((first | refine LookP.mk _ rfl ?_ | refine ShlP.mk _ (by first | (simp only [List.set, over, List.take, List.drop, List.append_eq, List.nil_append, List.cons_append, List.length]; rfl) | rfl) ?_ | refine And.intro (by first | assumption | exact ⟨by kernel_rfl, rfl⟩ | decide | omega | exact ⟨rfl, by decide, by simp only [List.length_map, Nat.zero_add]; omega⟩) ?_ | rw [hB1] | refine bneT ?_ | refine HpP.force ?_); conv => whnf) | (intro t ht; cases t <;> conv => whnf)
       refine N_m _ ?_ ?_
       ·first | trivial | assumption | omega
       ·refine keep_env (by first | exact Nat.zero_le _ | exact Nat.le_of_ble_eq_true rfl) ?_ ?_ trivial
        ·repeat' first | exact trivial | refine ⟨⟨by first | rfl | assumption | exact congrArg (fun n => AV.d (iD n)) e_m, rfl⟩, ?_⟩
        ·repeat' first | exact trivial | refine ⟨⟨ltB rfl, _, rfl, by first | rfl | assumption | exact congrArg some (psB_congr hsame), by first | exact below1 rfl | exact below_dblk _ _ _ | exact below_arr rfl | exact trivial | exact ⟨rfl, Nat.le_of_ble_eq_true rfl⟩⟩, ?_⟩
      ·have hma' : (m : Int) ≠ a0 := by omega
       have hta := times183v (G := GG) hw (rf m) [rf a0] true (by simp) (hvl m h_m) (by intro r hr; rw [List.mem_singleton.1 hr]; exact hvl a0 sp1)
       have hme2 : ([rf a0].foldl mulS (rf m)) = prS (zP w n o) rf a0 (m + 1) m := (prS_new hma hbm).symm
       rw [hme2] at hta
       have hga : prS (zP w n o) rf a0 m a0 = rf a0 := prS_a0
       generalize prS (zP w n o) rf a0 m = g at hgm hst hga
       generalize hg1 : prS (zP w n o) rf a0 (m + 1) = g' at hst hta N_m
       generalize hr' : g' m = r' at hta hst
       have hst2 : ∀ j, (if j = m then [iD r'.w, iD r'.x, iD r'.z, iD r'.p] else Ps.l (g j)) = Ps.l (g' j) := hst
       have hgA : (fun j => Ps.l (g j)) a0 = Ps.l (rf a0) := by dsimp only; rw [hga]
       conv => whnf
       repeat (refine LookP.mk _ rfl ?_; conv => whnf)
       intro t ht
       cases t
       ·exfalso; first | (simp at ht; done) | (simp at ht; omega)
       conv => whnf
       repeat' first | ((first | refine LookP.mk _ (by first | rfl | exact get_rwE h_m hgm) ?_ | refine ShlP.mk _ (by first | (simp only [List.set, over, List.take, List.drop, List.append_eq, List.nil_append, List.cons_append, List.length]; rfl) | rfl) ?_ | refine And.intro (by first | assumption | exact ⟨by kernel_rfl, rfl⟩ | decide | omega | exact ⟨rfl, by decide, by simp only [List.length_map, Nat.zero_add]; omega⟩) ?_ | refine pc_use hcm ?_ | refine pc_head hcm ?_ | refine HpP.force ?_); conv => whnf) | (intro t ht; cases t <;> conv => whnf)
       refine round_walk pok ?_
       conv => whnf
       repeat' first | ((first | refine LookP.mk _ (by first | rfl | exact get_rwE h_m hgm | exact get_rwE sp1 hgA) ?_ | refine ShlP.mk _ (by first | exact set_rw (x := [_, _, _, _]) h_m | (simp only [List.set, over, List.take, List.drop, List.append_eq, List.nil_append, List.cons_append, List.length]; rfl) | rfl) ?_ | refine And.intro (by first | exact ⟨Int.natCast_nonneg _, by omega⟩ | assumption | exact ⟨by kernel_rfl, rfl⟩ | decide | omega | exact ⟨rfl, by decide, by simp only [List.length_map, Nat.zero_add]; omega⟩) ?_ | rw [hB1] | refine bneF hma' ?_ | refine pc_use hta ?_ | refine pc_head hta ?_ | refine HpP.force ?_); conv => whnf) | (intro t ht; cases t <;> conv => whnf)
       refine N_m _ ?_ ?_
       ·first | trivial | assumption | omega
       ·refine keep_env (by first | exact Nat.zero_le _ | exact Nat.le_of_ble_eq_true rfl) ?_ ?_ trivial
        ·repeat' first | exact trivial | refine ⟨⟨by first | rfl | assumption | exact congrArg (fun n => AV.d (iD n)) e_m, rfl⟩, ?_⟩
        ·repeat' first | exact trivial | refine ⟨⟨ltB rfl, _, rfl, by first | rfl | assumption | exact congrArg some (psB_congr hst2), by first | exact below1 rfl | exact below_dblk _ _ _ | exact below_arr rfl | exact trivial | exact ⟨rfl, Nat.le_of_ble_eq_true rfl⟩⟩, ?_⟩
    ·intro A_last I_last
     have hfin : ∀ j, (if j = a0 then [iD w, iD 0, iD ((2 ^ n : Nat) : Int), iD ((2 * o : Nat) : Int)] else Ps.l (prS (zP w n o) rf a0 w j)) = Ps.l (prjF rf (zP w n o) a0 R j) := fun j => by
      unfold prjF prjR prS
      by_cases h : j = a0
      ·rw [if_pos h, if_pos h]; rfl
      ·rw [if_neg h, if_neg h]
       by_cases hr : j ∈ R
       ·rw [if_pos hr, if_pos ((hRm j).1 hr)]
       ·rw [if_neg hr, if_neg fun q => hr ((hRm j).2 q)]
     have hgA : (fun j => Ps.l (prS (zP w n o) rf a0 w j)) a0 = Ps.l (rf a0) := by dsimp only; rw [prS_a0]
     generalize prS (zP w n o) rf a0 w = g at hfin hgA
     generalize prjF rf (zP w n o) a0 R = g' at hfin hcan2 ⊢
     conv => whnf
     repeat (refine LookP.mk _ rfl ?_; conv => whnf)
     intro t ht
     cases t
     rotate_left
     ·exfalso; first | (simp at ht; done) | (simp at ht; omega)
     conv => whnf
     repeat' first | ((first | refine LookP.mk _ (by first | rfl | exact get_rwE sp1 hgA | exact lendA (congrArg some (psB_congr hfin)) (by simp)) ?_ | refine ShlP.mk _ (by first | exact set_rw (x := [_, _, _, _]) sp1 | (simp only [List.set, over, List.take, List.drop, List.append_eq, List.nil_append, List.cons_append, List.length]; rfl) | rfl) ?_ | refine And.intro (by first | exact ⟨Int.natCast_nonneg _, by omega⟩ | assumption | exact ⟨by kernel_rfl, rfl⟩ | decide | omega | exact ⟨rfl, by decide, by simp only [List.length_map, Nat.zero_add]; omega⟩) ?_ | refine spine_rd (l := [10]) (rd_call rfl rfl (show _ = some (dblk 4 ((List.range w).map fun j => Ps.l (g' j))) from congrArg some (psB_congr hfin))) ?_ | refine po_head hcan2 ?_ | rw [flOf_rows] | refine ShhP.mk _ rfl ?_ | refine HpP.force ?_); conv => whnf) | (intro t ht; cases t <;> conv => whnf)
     refine fin ⟨rfl, rfl, ?_⟩
     show some (Blk.ren _ (dblk 4 _)) = _
     rw [ren_dblk]
  ·intro A_last I_last
   exact (hno I_last).elim
 ·rintro v H m ⟨rfl, h2, h3⟩
  refine ⟨.d (.tup [iD 1, iD 0]), [(2, some (wkF w 12 F)), (12, some (dblk 4 ((redRows (rowsL w (prjF rf (zP w n o) a0 R)) (2 * w)).map Ps.l)))], 13, ?_, rfl, rfl, rfl, rfl⟩
  first | refine ren_env [(2, 2), (12, 24)] ?_ ?_ ?_ trivial | refine ren_envB [(2, 2), (12, 24)] rfl rfl ?_ ?_ ?_ trivial
  ·repeat' first | exact trivial | refine ⟨⟨by first | rfl | assumption, rfl⟩, ?_⟩
  ·repeat' first | exact trivial | refine ⟨⟨ltB rfl, _, rfl, by first | rfl | assumption | exact get_ren rfl (by first | rfl | assumption | exact h2 | exact get_ren rfl h3 | exact get_ren rfl h2) | exact h2 | exact get_ren rfl h3 | exact get_ren rfl h2, by first | exact below1 rfl | exact below_dblk _ _ _ | exact below_arr rfl⟩, ?_⟩
  ·repeat' first | exact trivial | (refine And.intro ?_ ?_) | (exact fun _ => rfl) | (exact fun h => absurd h (Nat.ne_of_beq_eq_false rfl))
abbrev mAt (w : Nat) (F : FuncId) (L : List Ps) : AHeap := [(2, some (wkF w 10 F)), (10, some (dblk 4 (L.map Ps.l)))]
theorem measure136st {w n o : Nat} {L : List Ps} (hs : SOk w L) (hn : n < w) (ho : o ≤ 1) (F : FuncId) {e r : Int} (he : expP L (zP w n o) = e) (h : (e = 1 ∧ r = 0) ∨ (e = -1 ∧ r = 6)) :
  ACall Pr GG 136 [.ptr 2 3 0 0, .d (iD n), .d (iD o)] (mAt w F L) 12 (mK w F (rV 0 r) 10 L) := by
 have hlen := hs.len
 have hhi := hs.hi
 have hpv := zP_vl hn ho
 have hx := expected107 hs true hpv
 rw [he] at hx
 have hsh : ishl .i64 1 (n : Int) = ((2 ^ n : Nat) : Int) := pow_nat (by omega)
 have him : imul .i64 2 (o : Int) = ((2 * o : Nat) : Int) := imul_nat (a := 2) (by omega)
 have hx2 : PC Pr GG 107 [.agg [iD w, .sl (L.map Ps.l) true], (zP w n o).d] (iD e) := hx
 clear he hx
 rcases h with ⟨rfl, rfl⟩ | ⟨rfl, rfl⟩
 ·refine acall_sub (fn_walk pok Tryz.func136 chk136 (K := fun v H m => v = rV 0 0 ∧ H.get 2 = some (wkF w 10 F) ∧ H.get 10 = some (dblk 4 (L.map Ps.l))) ?_) ?_
  ·conv => whnf
   repeat' first | ((first | refine LookP.mk _ (by first | rfl | exact lendW rfl (by rw [List.length_map, hlen])) ?_ | refine ShlP.mk _ (by first | (simp only [List.set, over, List.take, List.drop, List.append_eq, List.nil_append, List.cons_append, List.length]; rfl) | rfl) ?_ | refine And.intro (by first | assumption | exact ⟨by kernel_rfl, rfl⟩ | decide | omega | exact ⟨rfl, by decide, by simp only [List.length_map, Nat.zero_add]; omega⟩) ?_ | rw [hsh] | rw [him] | refine spine_rd (l := [10]) (rd_call rfl rfl (show _ = some (dblk 4 (L.map Ps.l)) from rfl)) ?_ | refine pc_use hx2 ?_ | refine pc_head hx2 ?_ | refine beqT1 ?_ | refine beqF1 rfl ?_ | refine HpP.force ?_); conv => whnf) | (intro t ht; cases t <;> conv => whnf)
   exact fin ⟨rfl, rfl, rfl⟩
  ·rintro v H m ⟨rfl, h2, h3⟩
   refine ⟨rV 0 0, mAt w F L, 13, ?_, rfl, rfl, rfl, rfl⟩
   first | refine ren_env [(2, 2), (10, 10)] ?_ ?_ ?_ trivial | refine ren_envB [(2, 2), (10, 10)] rfl rfl ?_ ?_ ?_ trivial
   ·repeat' first | exact trivial | refine ⟨⟨by first | rfl | assumption, rfl⟩, ?_⟩
   ·repeat' first | exact trivial | refine ⟨⟨ltB rfl, _, rfl, by first | rfl | assumption | exact get_ren rfl (by first | rfl | assumption | exact get_ren rfl h3 | exact get_ren rfl h2) | exact get_ren rfl h3 | exact get_ren rfl h2, by first | exact below1 rfl | exact below_dblk _ _ _ | exact below_arr rfl⟩, ?_⟩
   ·repeat' first | exact trivial | (refine And.intro ?_ ?_) | (exact fun _ => rfl) | (exact fun h => absurd h (Nat.ne_of_beq_eq_false rfl))
 ·refine acall_sub (fn_walk pok Tryz.func136 chk136 (K := fun v H m => v = rV 0 6 ∧ H.get 2 = some (wkF w 10 F) ∧ H.get 10 = some (dblk 4 (L.map Ps.l))) ?_) ?_
  ·conv => whnf
   repeat' first | ((first | refine LookP.mk _ (by first | rfl | exact lendW rfl (by rw [List.length_map, hlen])) ?_ | refine ShlP.mk _ (by first | (simp only [List.set, over, List.take, List.drop, List.append_eq, List.nil_append, List.cons_append, List.length]; rfl) | rfl) ?_ | refine And.intro (by first | assumption | exact ⟨by kernel_rfl, rfl⟩ | decide | omega | exact ⟨rfl, by decide, by simp only [List.length_map, Nat.zero_add]; omega⟩) ?_ | rw [hsh] | rw [him] | refine spine_rd (l := [10]) (rd_call rfl rfl (show _ = some (dblk 4 (L.map Ps.l)) from rfl)) ?_ | refine pc_use hx2 ?_ | refine pc_head hx2 ?_ | refine beqT1 ?_ | refine beqF1 rfl ?_ | refine HpP.force ?_); conv => whnf) | (intro t ht; cases t <;> conv => whnf)
   exact fin ⟨rfl, rfl, rfl⟩
  ·rintro v H m ⟨rfl, h2, h3⟩
   refine ⟨rV 0 6, mAt w F L, 13, ?_, rfl, rfl, rfl, rfl⟩
   first | refine ren_env [(2, 2), (10, 10)] ?_ ?_ ?_ trivial | refine ren_envB [(2, 2), (10, 10)] rfl rfl ?_ ?_ ?_ trivial
   ·repeat' first | exact trivial | refine ⟨⟨by first | rfl | assumption, rfl⟩, ?_⟩
   ·repeat' first | exact trivial | refine ⟨⟨ltB rfl, _, rfl, by first | rfl | assumption | exact get_ren rfl (by first | rfl | assumption | exact get_ren rfl h3 | exact get_ren rfl h2) | exact get_ren rfl h3 | exact get_ren rfl h2, by first | exact below1 rfl | exact below_dblk _ _ _ | exact below_arr rfl⟩, ?_⟩
   ·repeat' first | exact trivial | (refine And.intro ?_ ?_) | (exact fun _ => rfl) | (exact fun h => absurd h (Nat.ne_of_beq_eq_false rfl))
theorem measure136ft {w n o : Nat} {L : List Ps} (hs : SOk w L) (hn : n < w) (ho : o ≤ 1) (F : FuncId) {a0 : Nat} {R : List Nat} (he : expP L (zP w n o) = 0) (hA : antL (zP w n o) (fun j => L.getD j Ps.z0) w = a0 :: R) :
  ACall Pr GG 136 [.ptr 2 3 0 0, .d (iD n), .d (iD o)] (mAt w F L) 12 (mK w F (rV 1 0) 12 (redRows (rowsL w (prjF (fun j => L.getD j Ps.z0) (zP w n o) a0 R)) (2 * w))) := by
 have hlen := hs.len
 have hpv := zP_vl hn ho
 have hx := expected107 hs true hpv
 rw [he] at hx
 have hvl : ∀ j, j < w → Vl w (L.getD j Ps.z0) := fun j hj => by
  rw [List.getD_eq_getElem?_getD, List.getElem?_eq_getElem (by rw [hlen]; exact hj), Option.getD_some]
  exact hs.vl _ (List.getElem_mem _)
 have hLm : L.map Ps.l = (List.range w).map fun j => Ps.l ((fun j => L.getD j Ps.z0) j) := by
  have := rowsL_get L hlen
  conv => lhs; rw [← this]
  unfold rowsL; rw [List.map_map]; rfl
 have hx2 : PC Pr GG 107 [.agg [iD w, .sl (L.map Ps.l) true], (zP w n o).d] (iD 0) := hx
 unfold mAt
 rw [hLm] at hx2 ⊢
 exact measure136ct ⟨hs.lo, hs.hi⟩ hn ho F hpv hvl hA hx2
structure WCt (f : FuncId) (args : List AV) (w : Nat) (F : FuncId) (L : List Ps) (v : AV) (nm : Nat) (R : List Ps) : Prop where
 fn : IsFn Pr f
 call : ACall Pr GG f args (mAt w F L) 12 (mK w F v nm R)
theorem work_callt {f : FuncId} {args : List AV} {w nm nx : Nat} {F : FuncId} {L R : List Ps} {v : AV} {H : AHeap} {k : AV → AHeap → Nat → Prop} (h : WCt f args w F L v nm R) (hn : nx ≤ 12)
  (h2 : H.get 2 = some (wkF w 10 F)) (h3 : H.get 10 = some (dblk 4 (L.map Ps.l))) (hk : k v ((2, some (wkF w nm F)) :: (nm, some (dblk 4 (R.map Ps.l))) :: AHeap.del H 10) 13) : CallVC Pr GG f args H nx k := by
 refine ⟨h.fn, acall_frame h.call hn (fun m b hg => ?_) ?_⟩
 ·rw [get_consI, get_consI] at hg
  by_cases e2 : m = 2
  ·rw [if_pos e2] at hg; rw [e2, h2, hg]
  ·rw [if_neg e2] at hg
   by_cases e3 : m = 10
   ·rw [if_pos e3] at hg; rw [e3, h3, hg]
   ·rw [if_neg e3] at hg; cases hg
 ·rintro v' H1 n' ⟨rfl, g2, g3, rfl⟩
  refine ⟨_, fun m b hg => ?_, hk⟩
  rw [get_consI, get_consI] at hg
  by_cases e2 : m = 2
  ·rw [if_pos e2] at hg; exact .inl (by rw [e2, g2, hg])
  ·rw [if_neg e2] at hg
   by_cases e3 : m = nm
   ·rw [if_pos e3] at hg; exact .inl (by rw [e3, g3, hg])
   ·rw [if_neg e3, get_del] at hg
    by_cases e4 : m = 10
    ·rw [if_pos e4] at hg; cases hg
    ·rw [if_neg e4] at hg
     refine .inr ⟨?_, hg⟩
     rw [get_consI, get_consI, if_neg e2, if_neg e4]; rfl
theorem meast {w n o : Nat} {l r : List Ps} (h : SOk w l) (h' : SOk w r) (hg : SameG (r.map nf) (l.map nf)) (hn : n < w) (ho : o ≤ 1) (F : FuncId) :
  (expR w l (zP w n o) = 1 ∧ WCt 136 (wA n o) w F r (rV 0 0) 10 r) ∨ (expR w l (zP w n o) = -1 ∧ WCt 136 (wA n o) w F r (rV 0 6) 10 r) ∨
  (expR w l (zP w n o) = 0 ∧ SOk w (prjL (zP w n o) l) ∧ WCt 136 (wA n o) w F r (rV 1 0) 12 (redRows (prjL (zP w n o) l) (2 * w))) := by
 have hpv := zP_vl hn ho
 have hok := zP_ok h.hi hn ho
 obtain ⟨e1, e2⟩ := mea_gen h h' hg hpv hok
 have hf := isFn_of Tryz.func136 chk136
 rcases expOk_cases (expR_ok h hpv hok) with ⟨a, _⟩ | ⟨a, _⟩ | ⟨a, _⟩
 ·exact .inl ⟨a, hf, measure136st h' hn ho F (e1.trans a) (.inl ⟨rfl, rfl⟩)⟩
 ·exact .inr (.inl ⟨a, hf, measure136st h' hn ho F (e1.trans a) (.inr ⟨rfl, rfl⟩)⟩)
 ·obtain ⟨b, a0, R, hA, _, hR⟩ := e2 a
  refine .inr (.inr ⟨a, b, hf, ?_⟩)
  rw [← hR]
  exact measure136ft h' hn ho F (e1.trans a) hA
end Go.Tz
