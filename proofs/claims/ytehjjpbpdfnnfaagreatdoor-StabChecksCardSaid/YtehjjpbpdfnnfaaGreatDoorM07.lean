import Derived.Test.YtehjjpbpdfnnfaaGreatDoorM06
/-! ref12.Find, ref14.Expect. -/
namespace Go.Tz
open Go Go.AL Go.Proofs Go.Ma
variable {G : Nat → Option (List D)}
theorem lendS {V : AHeap} {nm sz N : Nat} {t : Bool} {es : List (List D)} {a : D} (hg : V.get nm = some (dblk sz es)) (hN : N = es.length) : mapO (asDX V 9 []) [.d a, .sl nm sz 0 N N t] = some [a, .sl es t] := by
  have h := asDX_sl (q := 7) (vis := []) (t := t) hg hN
  have e1 : asDX V 9 [] (.d a) = some a := rfl
  simp only [mapO, e1, h]
/-- What the reference takes of a list for a string. -/
def sbL (w : Nat) (l : List Ps) (p : Ps) : Ps × (Nat → Bool) := sbSt (redRows l (2 * w)) (redN l (2 * w)).2.1 p l.length
def tkP (l : List Ps) (f : Nat → Bool) : List Ps := (tkL f l.length).map fun n => l.getD n Ps.z0
def phR (w : Nat) (l : List Ps) (p : Ps) : Int := (isub .i64 (iadd .i64 4 p.p) (prodS w (tkP l (sbL w l p).2)).p).tmod 4
def findR (w : Nat) (l : List Ps) (p : Ps) : D := if (sbL w l p).1.x ≠ 0 ∨ (sbL w l p).1.z ≠ 0 then .tup [.any, iD 0, iD 6] else .tup [.any, iD (phR w l p), iD 0]
theorem chk123 : chkFn Tryz.f123 = true := by kernel_rfl
theorem find123 {w : Nat} {l : List Ps} (hs : SOk w l) (t : Bool) {p : Ps} (hp : Vl w p) : PC Pr G 123 [rowsD l t, p.d] (findR w l p) := by
  have hlo := hs.lo
  have hhi := hs.hi
  have hlen := hs.len
  have hpos : 0 < l.length := by omega
  have hww : ∀ q, q ∈ l → q.w = (w : Int) := fun q hq => vl_w (hs.vl q hq)
  have hi := indep90 (G := G) l t w (by omega) hpos hww (by omega) (by omega)
  rw [Int.toNat_natCast, hs.rank, decide_eq_true rfl] at hi
  have hr := red_pc (G := G) l t w (by omega) hpos hww (by omega) (by omega)
  rw [Int.toNat_natCast] at hr
  have hmv : ∀ q, q ∈ redRows l (2 * w) → Vl w q := by
    intro q hq
    obtain ⟨j, hj, rfl⟩ := List.mem_map.1 hq
    exact (red_vl hhi hs.vl _).1 j (List.mem_range.1 hj)
  have hsub := subset204 (G := G) ⟨hlo, hhi⟩ l t p (redRows l (2 * w)) (redN l (2 * w)).2.1 (by omega) (redRows_len l _) hmv hp hr
  have hsv : sbSt (redRows l (2 * w)) (redN l (2 * w)).2.1 p l.length = sbL w l p := rfl
  rw [hsv] at hsub
  unfold subD at hsub
  unfold findR phR
  generalize sbL w l p = s at hsub ⊢
  have hg0 : (l.map Ps.l)[(0 : Int).toNat]? = some (l[0]).l := get_l0 hpos
  have hwp : p.w = (l[0]).w := by rw [vl_w hp, vl_w (hs.vl _ (List.getElem_mem hpos))]
  refine pc_freezeW (isFn_of Tryz.func123 chk123) (fn_walk pok Tryz.func123 chk123 ?_)
  by_cases hz : s.1.x ≠ 0 ∨ s.1.z ≠ 0
  · rw [if_pos hz] at hsub ⊢
    conv => whnf
    repeat' first
      | (refine LookP.mk _ (by first | rfl | exact hg0) ?_; conv => whnf)
      | (refine ShlP.mk _ (by first | (simp only [List.set, over, List.take, List.drop, List.append_eq, List.nil_append, List.cons_append, List.length]; rfl) | rfl) ?_; conv => whnf)
      | (refine And.intro (by first | assumption | exact ⟨by kernel_rfl, rfl⟩ | decide | omega | exact ⟨rfl, by decide, by simp only [List.length_map, Nat.zero_add]; omega⟩) ?_; conv => whnf)
      | (refine pc_use (hi) ?_; conv => whnf)
      | (refine pc_head (hi) ?_; conv => whnf)
      | (refine pc_use (hsub) ?_; conv => whnf)
      | (refine pc_head (hsub) ?_; conv => whnf)
      | (refine HpP.force ?_; conv => whnf)
      | (intro t ht; cases t <;> conv => whnf)
    · exact fin ⟨_, .d _, dw_any3 _ _ _⟩
    · exfalso; simp at ht; exact ht hwp
  · rw [if_neg hz] at hsub ⊢
    have htl : ∀ n, n ∈ tkL s.2 l.length → n < l.length := fun n hn => List.mem_range.1 (List.mem_filter.1 hn).1
    have htn := tkL_le s.2 l.length
    unfold tkP
    generalize tkL s.2 l.length = A at hsub htl htn ⊢
    have hpr := prod205 (G := G) w (A.map fun n => l.getD n Ps.z0) false (by simp; omega) (by omega) (by omega) (by
      intro q hq
      obtain ⟨n, hn, rfl⟩ := List.mem_map.1 hq
      have h := htl n hn
      rw [List.getD_eq_getElem?_getD, List.getElem?_eq_getElem h]
      exact hww _ (List.getElem_mem h))
    rw [← vl_w hp] at hpr ⊢
    generalize prodS p.w (A.map fun n => l.getD n Ps.z0) = g at hpr ⊢
    conv => whnf
    repeat' first
      | (refine LookP.mk _ (by first | rfl | exact hg0) ?_; conv => whnf)
      | (refine ShlP.mk _ (by first | (simp only [List.set, over, List.take, List.drop, List.append_eq, List.nil_append, List.cons_append, List.length]; rfl) | rfl) ?_; conv => whnf)
      | (refine And.intro (by first | assumption | exact ⟨by kernel_rfl, rfl⟩ | decide | omega | exact ⟨rfl, by decide, by simp only [List.length_map, Nat.zero_add]; omega⟩) ?_; conv => whnf)
      | (refine pc_use (hi) ?_; conv => whnf)
      | (refine pc_head (hi) ?_; conv => whnf)
      | (refine pc_use (hsub) ?_; conv => whnf)
      | (refine pc_head (hsub) ?_; conv => whnf)
      | (refine HpP.force ?_; conv => whnf)
      | (intro t ht; cases t <;> conv => whnf)
    rotate_left
    · exfalso; simp at ht; exact ht hwp
    refine for_use pok (fun i => ⟨[(0, .d (rowsD l t)), (3, .ptr 0 4 0 0), (7, .d (.sl (numD A) false)), (9, .sl 1 4 0 i i false), (10, .d (iD i))], [(0, some (.arr 4 [p.l.map AV.d])), (1, some (dblk 4 (((A.map fun n => l.getD n Ps.z0).take i).map Ps.l)))], 2⟩) (A.length) (fun _ => True) (trivial) ?_ (by kernel_rfl) ?_ ?_
    · refine Sub.trans (sub_nil (t := 9) (S := 4) (Nat.zero_le _) rfl) ?_
      refine keep_env (by first | exact Nat.zero_le _ | exact Nat.le_of_ble_eq_true rfl) ?_ ?_ trivial
      · repeat' first
          | exact trivial
          | refine ⟨⟨by first | rfl | assumption, rfl⟩, ?_⟩
      · repeat' first
          | exact trivial
          | refine ⟨⟨ltB rfl, _, rfl, by first | rfl | assumption, by first | exact below1 rfl | exact below_dblk _ _ _ | exact below_arr rfl⟩, ?_⟩
    · intro i A_i h_i I_i N_i
      have e_i : iadd .i64 (i : Int) 1 = ((i + 1 : Nat) : Int) := iadd_nat (by first | omega | (simp at *; omega))
      have hai := htl _ (List.getElem_mem h_i)
      have hnum : (numD A)[(i : Int).toNat]? = some [iD (A[i] : Nat)] := by simp [numD, List.getElem?_eq_getElem h_i]
      have hsn : ((A.map fun n => l.getD n Ps.z0).take (i + 1)).map Ps.l = ((A.map fun n => l.getD n Ps.z0).take i).map Ps.l ++ [(l[A[i]]).l] := by
        rw [take_snoc (by simpa using h_i), List.map_append]
        simp [List.getD_eq_getElem?_getD, List.getElem?_eq_getElem hai]
      have hml : (((A.map fun n => l.getD n Ps.z0).take i).map Ps.l).length = i := by simp; omega
      have hgl : (l.map Ps.l)[((A[i] : Nat) : Int).toNat]? = some (l[A[i]]).l := get_l hai
      generalize ((A.map fun n => l.getD n Ps.z0).take i).map Ps.l = M at hsn hml
      generalize l[A[i]] = q at hsn hgl
      generalize A[i] = a at hai hnum hgl
      have hlen2 : (numD A).length = A.length := by simp [numD]
      conv => whnf
      repeat' first
        | (refine LookP.mk _ (by first | rfl | exact hnum | exact hgl) ?_; conv => whnf)
        | (refine ShlP.mk _ (by first | (simp only [List.set, over, List.take, List.drop, List.append_eq, List.nil_append, List.cons_append, List.length]; rfl) | rfl) ?_; conv => whnf)
        | (refine And.intro (by first | exact ⟨Int.natCast_nonneg _, by omega⟩ | exact Nat.le_refl _ | exact ⟨by rw [List.length_map]; exact hml, by decide, by show (2 * (i + 1) + 192) * 32 ≤ 281474976710656; omega⟩ | assumption | exact ⟨by kernel_rfl, rfl⟩ | decide | omega | exact ⟨rfl, by decide, by simp only [List.length_map, Nat.zero_add]; omega⟩) ?_; conv => whnf)
        | (rw [nbeq]; conv => whnf)
        | (refine HpP.force ?_; conv => whnf)
        | (intro t ht; cases t <;> conv => whnf)
      · exfalso; simp [numD] at ht; omega
      · refine N_i _ ?_ ?_
        · first | trivial | assumption | omega
        · first | refine ren_env [(1, 3)] ?_ ?_ ?_ trivial | refine ren_envB [(1, 3)] rfl rfl ?_ ?_ ?_ trivial
          · repeat' first
              | exact trivial
              | refine ⟨⟨by first | rfl | assumption | exact congrArg (fun n => AV.d (iD n)) e_i, rfl⟩, ?_⟩
          · repeat' first
              | exact trivial
              | refine ⟨⟨ltB rfl, _, rfl, by first | rfl | assumption | exact get_ren rfl (by first | rfl | assumption | exact get_ren rfl (by rw [hsn]; exact congrArg some (dblk_snoc rfl))) | exact get_ren rfl (by rw [hsn]; exact congrArg some (dblk_snoc rfl)), by first | exact below1 rfl | exact below_dblk _ _ _ | exact below_arr rfl⟩, ?_⟩
          · repeat' first
              | exact trivial
              | (refine And.intro ?_ ?_)
              | exact fun _ => rfl
              | exact fun h => absurd h (Nat.ne_of_beq_eq_false rfl)
    · intro A_last I_last
      have hlen2 : (numD A).length = A.length := by simp [numD]
      have hT : (A.map fun n => l.getD n Ps.z0).take A.length = A.map fun n => l.getD n Ps.z0 := List.take_of_length_le (by simp)
      rw [hT]
      have hTl : (A.map fun n => l.getD n Ps.z0).length = A.length := by simp
      generalize (A.map fun n => l.getD n Ps.z0) = T at hpr hTl ⊢
      conv => whnf
      repeat (refine LookP.mk _ rfl ?_; conv => whnf)
      intro t ht
      cases t
      rotate_left
      · exfalso; first | (simp at ht; done) | (simp at ht; omega)
      conv => whnf
      repeat' first
        | (refine LookP.mk _ (by first | rfl | exact lendS rfl (by simp [hTl])) ?_; conv => whnf)
        | (refine ShlP.mk _ (by first | (simp only [List.set, over, List.take, List.drop, List.append_eq, List.nil_append, List.cons_append, List.length]; rfl) | rfl) ?_; conv => whnf)
        | (refine And.intro (by first | assumption | exact ⟨by kernel_rfl, rfl⟩ | decide | omega | exact ⟨rfl, by decide, by simp only [List.length_map, Nat.zero_add]; omega⟩) ?_; conv => whnf)
        | (refine spine_rd (l := [1]) (rd_call rfl rfl (show _ = some (dblk 4 (T.map Ps.l)) from rfl)) ?_; conv => whnf)
        | (refine pc_use (hpr) ?_; conv => whnf)
        | (refine pc_head (hpr) ?_; conv => whnf)
        | (refine HpP.force ?_; conv => whnf)
        | (intro t ht; cases t <;> conv => whnf)
      refine fin ⟨_, .d _, ?_⟩
      exact dw_any3 _ _ _
theorem chk45 : chkFn Tryz.f45 = true := by kernel_rfl
/-- What is expected of a string, as the reference tells it. -/
def expR (w : Nat) (l : List Ps) (p : Ps) : Int := if (sbL w l p).1.x ≠ 0 ∨ (sbL w l p).1.z ≠ 0 then 0 else if phR w l p = 0 then 1 else -1
theorem expect45 {w : Nat} {l : List Ps} (hs : SOk w l) (t : Bool) {p : Ps} (hp : Vl w p) : PC Pr G 45 [stD w l t, p.d] (iD (expR w l p)) := by
  have hf := find123 (G := G) hs t hp
  unfold findR at hf
  unfold expR
  generalize phR w l p = n at hf ⊢
  by_cases hz : (sbL w l p).1.x ≠ 0 ∨ (sbL w l p).1.z ≠ 0
  · rw [if_pos hz] at hf ⊢
    refine pc_walk pok Tryz.func45 chk45 ?_
    conv => whnf
    repeat' first
      | (refine LookP.mk _ rfl ?_; conv => whnf)
      | (refine ShlP.mk _ (by first | (simp only [List.set, over, List.take, List.drop, List.append_eq, List.nil_append, List.cons_append, List.length]; rfl) | rfl) ?_; conv => whnf)
      | (refine And.intro (by first | assumption | exact ⟨by kernel_rfl, rfl⟩ | decide | omega | exact ⟨rfl, by decide, by simp only [List.length_map, Nat.zero_add]; omega⟩) ?_; conv => whnf)
      | (refine pc_use (hf) ?_; conv => whnf)
      | (refine pc_head (hf) ?_; conv => whnf)
      | (refine HpP.force ?_; conv => whnf)
      | (intro t ht; cases t <;> conv => whnf)
    all_goals first | exact fin rfl | exact absurd ht (by decide) | (exfalso; simp_all)
  · rw [if_neg hz] at hf ⊢
    refine pc_walk pok Tryz.func45 chk45 ?_
    conv => whnf
    repeat' first
      | (refine LookP.mk _ rfl ?_; conv => whnf)
      | (refine ShlP.mk _ (by first | (simp only [List.set, over, List.take, List.drop, List.append_eq, List.nil_append, List.cons_append, List.length]; rfl) | rfl) ?_; conv => whnf)
      | (refine And.intro (by first | assumption | exact ⟨by kernel_rfl, rfl⟩ | decide | omega | exact ⟨rfl, by decide, by simp only [List.length_map, Nat.zero_add]; omega⟩) ?_; conv => whnf)
      | (refine pc_use (hf) ?_; conv => whnf)
      | (refine pc_head (hf) ?_; conv => whnf)
      | (refine HpP.force ?_; conv => whnf)
      | (intro t ht; cases t <;> conv => whnf)
    · rw [if_neg (by simpa using ht)]; exact fin rfl
    · rw [if_pos (by simpa using ht)]; exact fin rfl
    · exact absurd ht (by decide)
end Go.Tz


/-! ref14.Overlap. -/
namespace Go.Tz
open Go Go.AL Go.Proofs Go.Ma
variable {G : Nat → Option (List D)}
/-- A string put into a state, as the reference does it: before, and behind, the first that does not commute with it. -/
def prjL (p : Ps) : List Ps → List Ps
  | [] => []
  | q :: l => if comV q p = true then q :: prjL p l else p :: l.map fun r => if comV r p = true then r else mulS q r
theorem prjL_len (p : Ps) : ∀ l, (prjL p l).length = l.length
  | [] => rfl
  | q :: l => by
    unfold prjL
    split
    · simp [prjL_len p l]
    · simp
theorem prjL_snoc (p q : Ps) : ∀ A : List Ps, prjL p (A ++ [q]) = prjL p A ++ [if comV q p = true then q else match A.find? (fun r => !comV r p) with
    | some f => mulS f q
    | none => p]
  | [] => by
    simp only [List.nil_append, prjL, List.find?_nil, List.map_nil]
    split <;> rfl
  | a :: A => by
    rw [List.cons_append]
    unfold prjL
    by_cases h : comV a p = true
    · rw [if_pos h, if_pos h, prjL_snoc p q A, List.find?_cons_of_neg (by simp [h])]; rfl
    · rw [if_neg h, if_neg h, List.map_append, List.find?_cons_of_pos (by simpa using h)]; rfl
def orSt (w : Nat) (l' : List Ps) (P : List Ps) : Nat → List Ps × Nat
  | 0 => (l', 0)
  | k + 1 => if expR w (orSt w l' P k).1 (P.getD k Ps.z0) = 1 then orSt w l' P k else (prjL (P.getD k Ps.z0) (orSt w l' P k).1, (orSt w l' P k).2 + 1)
def orEx (w : Nat) (l' P : List Ps) (k : Nat) : Int := expR w (orSt w l' P k).1 (P.getD k Ps.z0)
/-- The overlap, as the reference tells it. -/
def ovR (w : Nat) (l' P : List Ps) : Int := if (List.range P.length).any (fun k => decide (orEx w l' P k = -1)) then -1 else ((orSt w l' P P.length).2 : Nat)
theorem idxI_snocF {α : Type} {p : α → Bool} {l : List α} {i : Nat} (h : i < l.length) (h1 : p l[i] = false) : idxI p (l.take (i + 1)) = idxI p (l.take i) := by
  unfold idxI
  rw [take_snoc h, List.findIdx?_append]
  cases l.take i |>.findIdx? p with
  | some j => rfl
  | none => simp [List.findIdx?_cons, h1]
theorem idx_case {α : Type} (p : α → Bool) (l : List α) : (l.find? p = none ∧ idxI p l = -1) ∨ ∃ i, ∃ h : i < l.length, idxI p l = (i : Nat) ∧ l.find? p = some l[i] := by
  unfold idxI
  rw [List.find?_eq_bind_findIdx?_getElem?]
  cases h : l.findIdx? p with
  | none => exact .inl ⟨rfl, rfl⟩
  | some i =>
    have hi := (List.findIdx?_eq_some_iff_getElem.1 h).1
    exact .inr ⟨i, hi, rfl, by simp [hi]⟩
theorem idxI_new {α : Type} {p : α → Bool} {l : List α} {i : Nat} (h : i < l.length) (h1 : p l[i] = true) (h2 : idxI p (l.take i) = -1) : idxI p (l.take (i + 1)) = i := by
  rw [take_snoc h]
  unfold idxI at h2 ⊢
  rw [List.findIdx?_append]
  cases hx : (l.take i).findIdx? p with
  | some j => rw [hx] at h2; exact absurd h2 (by show ¬ ((j : Int) = -1); omega)
  | none =>
    simp [List.findIdx?_cons, h1]
    omega
theorem idxI_old {α : Type} {p : α → Bool} {l : List α} {i k : Nat} (h : i < l.length) (h2 : idxI p (l.take i) = (k : Nat)) : idxI p (l.take (i + 1)) = k := by
  rw [take_snoc h]
  unfold idxI at h2 ⊢
  rw [List.findIdx?_append]
  cases hx : (l.take i).findIdx? p with
  | some j => rw [hx] at h2; exact h2
  | none => rw [hx] at h2; exact absurd h2 (by show ¬ ((-1 : Int) = k); omega)
theorem chk28 : chkFn Tryz.f28 = true := by kernel_rfl
theorem over28 {w : Nat} (hw : 1 ≤ w ∧ w ≤ 12) (l : List Ps) (t : Bool) (l' : List Ps) (hn : l.length ≤ 1000) (hn' : l'.length ≤ 1000) (hv : ∀ q, q ∈ l → Vl w q)
    (hst : ∀ k, k ≤ l.length → (∀ j, j < k → orEx w l' l j ≠ -1) → SOk w (orSt w l' l k).1) : PC Pr G 28 [stD w l t, stD w l' false] (iD (ovR w l' l)) := by
  refine pc_walk pok Tryz.func28 chk28 ?_
  conv => whnf
  repeat' first
    | (refine LookP.mk _ rfl ?_; conv => whnf)
    | (refine ShlP.mk _ (by first | (simp only [List.set, over, List.take, List.drop, List.append_eq, List.nil_append, List.cons_append, List.length]; rfl) | rfl) ?_; conv => whnf)
    | (refine And.intro (by first | assumption | exact ⟨by kernel_rfl, rfl⟩ | decide | omega | exact ⟨rfl, by decide, by simp only [List.length_map, Nat.zero_add]; omega⟩) ?_; conv => whnf)
    | (refine HpP.force ?_; conv => whnf)
    | (intro t ht; cases t <;> conv => whnf)
  refine for_use pok (fun k => ⟨[(2, .ptr 0 2 0 0), (5, .ptr 1 2 0 0), (6, .d (iD ((orSt w l' l k).2 : Nat))), (7, .d (iD k))], [(0, some (.arr 2 [[.d (iD w), .d (rowsD l t)]])), (1, some (.arr 2 [[.d (iD w), .d (rowsD (orSt w l' l k).1 false)]]))], 2⟩) (l.length) (fun k => ∀ j, j < k → orEx w l' l j ≠ -1) (by omega) ?_ (by kernel_rfl) ?_ ?_
  · first | refine ren_env [(1, 2)] ?_ ?_ ?_ trivial | refine ren_envB [(1, 2)] rfl rfl ?_ ?_ ?_ trivial
    · repeat' first
        | exact trivial
        | refine ⟨⟨by first | rfl | assumption, rfl⟩, ?_⟩
    · repeat' first
        | exact trivial
        | refine ⟨⟨ltB rfl, _, rfl, by first | rfl | assumption | exact get_ren rfl (by first | rfl | assumption), by first | exact below1 rfl | exact below_dblk _ _ _ | exact below_arr rfl⟩, ?_⟩
    · repeat' first
        | exact trivial
        | (refine And.intro ?_ ?_)
        | exact fun _ => rfl
        | exact fun h => absurd h (Nat.ne_of_beq_eq_false rfl)
  · intro k A_k h_k I_k N_k
    have e_k : iadd .i64 (k : Int) 1 = ((k + 1 : Nat) : Int) := iadd_nat (by first | omega | (simp at *; omega))
    have hS := hst k (by omega) I_k
    have hgd : l.getD k Ps.z0 = l[k] := by rw [List.getD_eq_getElem?_getD, List.getElem?_eq_getElem h_k]; rfl
    have hpv := hv l[k] (List.getElem_mem h_k)
    have hx := expect45 (G := G) hS false hpv
    have hE : orEx w l' l k = expR w (orSt w l' l k).1 l[k] := by unfold orEx; rw [hgd]
    have hnx : orSt w l' l (k + 1) = if expR w (orSt w l' l k).1 l[k] = 1 then orSt w l' l k else (prjL l[k] (orSt w l' l k).1, (orSt w l' l k).2 + 1) := by rw [← hgd]; rfl
    have hcnt : (orSt w l' l k).2 ≤ k := by
      have key : ∀ k, (orSt w l' l k).2 ≤ k := by
        intro k
        induction k with
        | zero => exact Nat.le_refl _
        | succ k ih =>
          simp only [orSt]
          split
          · omega
          · exact Nat.succ_le_succ ih
      exact key k
    have hout : expR w (orSt w l' l k).1 l[k] = -1 → ovR w l' l = -1 := by
      intro h
      unfold ovR
      rw [if_pos (List.any_eq_true.2 ⟨k, List.mem_range.2 h_k, by rw [hE, h]; rfl⟩)]
    have hnn : orEx w l' l k ≠ -1 → ∀ j, j < k + 1 → orEx w l' l j ≠ -1 := by
      intro h j hj
      rcases Nat.lt_or_ge j k with q | q
      · exact I_k j q
      · rw [show j = k by omega]; exact h
    rw [hE] at hnn
    have hSl := hS.len
    have hSv := hS.vl
    generalize orSt w l' l k = s at hx hE hnx hcnt hout hnn hSl hSv ⊢
    generalize expR w s.1 l[k] = e at hx hnx hout hnn
    obtain ⟨L, n⟩ := s
    dsimp only at hx hnx hcnt hSl hSv hnn hout ⊢
    have hgp : (l.map Ps.l)[(k : Int).toNat]? = some (l[k]).l := get_l h_k
    generalize l[k] = p at hnx hpv hgp hx
    conv => whnf
    repeat (refine LookP.mk _ rfl ?_; conv => whnf)
    intro t ht
    cases t
    · exfalso; first | (simp at ht; done) | (simp at ht; omega)
    conv => whnf
    repeat' first
      | (refine LookP.mk _ (by first | rfl | exact hgp) ?_; conv => whnf)
      | (refine ShlP.mk _ (by first | (simp only [List.set, over, List.take, List.drop, List.append_eq, List.nil_append, List.cons_append, List.length]; rfl) | rfl) ?_; conv => whnf)
      | (refine And.intro (by first | assumption | exact ⟨by kernel_rfl, rfl⟩ | decide | omega | exact ⟨rfl, by decide, by simp only [List.length_map, Nat.zero_add]; omega⟩) ?_; conv => whnf)
      | (refine pc_use (hx) ?_; conv => whnf)
      | (refine pc_head (hx) ?_; conv => whnf)
      | (refine HpP.force ?_; conv => whnf)
      | (intro t ht; cases t <;> conv => whnf)
    · have e1 : e ≠ 1 := by simpa using ht
      have e2 : e ≠ -1 := by intro h; subst h; simp_all
      rw [if_neg e1] at hnx
      have hi : iadd .i64 (n : Int) 1 = ((n + 1 : Nat) : Int) := iadd_nat (b := 1) (by omega)
      have hLN : L.length ≤ 1000 := by omega
      refine for_use pok (fun j => ⟨[(2, .ptr 0 2 0 0), (5, .ptr 1 2 0 0), (6, .d (iD (n + 1 : Nat))), (7, .d (iD k)), (8, .ptr 2 4 0 0), (9, .d (iD (idxI (fun q => !comV q p) (L.take j)))), (10, .ptr 3 2 0 0), (11, .d (iD j))], [(0, some (.arr 2 [[.d (iD w), .d (rowsD l t)]])), (1, some (.arr 2 [[.d (iD w), .d (rowsD L false)]])), (2, some (.arr 4 [p.l.map AV.d])), (3, some (.arr 2 [[.d (iD w), .sl 4 4 0 j j false]])), (4, some (dblk 4 ((prjL p (L.take j)).map Ps.l)))], 5⟩) (L.length) (fun _ => True) (trivial) ?_ (by kernel_rfl) ?_ ?_
      · refine Sub.trans (sub_nilH2 (nm := 3) (S := 4) (Nat.zero_le _) rfl) ?_
        refine keep_env (by first | exact Nat.zero_le _ | exact Nat.le_of_ble_eq_true rfl) ?_ ?_ trivial
        · repeat' first
            | exact trivial
            | refine ⟨⟨by first | rfl | assumption | exact congrArg (fun n => AV.d (iD n)) hi, rfl⟩, ?_⟩
        · repeat' first
            | exact trivial
            | refine ⟨⟨ltB rfl, _, rfl, by first | rfl | assumption, by first | exact below1 rfl | exact below_dblk _ _ _ | exact below_arr rfl⟩, ?_⟩
      · intro j A_j h_j I_j N_j
        have e_j : iadd .i64 (j : Int) 1 = ((j + 1 : Nat) : Int) := iadd_nat (by first | omega | (simp at *; omega))
        have hqv := hSv _ (List.getElem_mem h_j)
        have hcm := commute89 (G := G) L[j] p (by rw [vl_w hqv]; omega) (by rw [vl_w hqv, vl_w hpv])
        rw [com_mul hw.2 hqv hpv] at hcm
        have hgq : (L.map Ps.l)[(j : Int).toNat]? = some (L[j]).l := get_l h_j
        have hsn : (prjL p (L.take (j + 1))).map Ps.l = (prjL p (L.take j)).map Ps.l ++ [(if comV L[j] p = true then L[j] else match (L.take j).find? (fun r => !comV r p) with
            | some f => mulS f L[j]
            | none => p).l] := by
          rw [take_snoc h_j, prjL_snoc, List.map_append]; rfl
        have hml : ((prjL p (L.take j)).map Ps.l).length = j := by rw [List.length_map, prjL_len, List.length_take]; omega
        generalize (prjL p (L.take j)).map Ps.l = M at hsn hml
        cases hc : comV L[j] p with
        | true =>
          rw [hc] at hcm hsn
          rw [if_pos rfl] at hsn
          have hix : idxI (fun q => !comV q p) (L.take (j + 1)) = idxI (fun q => !comV q p) (L.take j) := idxI_snocF h_j (by simp [hc])
          generalize idxI (fun q => !comV q p) (L.take j) = fi at hix ⊢
          generalize L[j] = q at hsn hgq hcm
          conv => whnf
          repeat (refine LookP.mk _ rfl ?_; conv => whnf)
          intro t ht
          cases t
          · exfalso; first | (simp at ht; done) | (simp at ht; omega)
          conv => whnf
          repeat' first
            | (refine LookP.mk _ (by first | rfl | exact hgq) ?_; conv => whnf)
            | (refine ShlP.mk _ (by first | (simp only [List.set, over, List.take, List.drop, List.append_eq, List.nil_append, List.cons_append, List.length]; rfl) | rfl) ?_; conv => whnf)
            | (refine And.intro (by first | exact Nat.le_refl _ | exact ⟨by rw [List.length_map]; exact hml, by decide, by show (2 * (j + 1) + 192) * 32 ≤ 281474976710656; omega⟩ | assumption | exact ⟨by kernel_rfl, rfl⟩ | decide | omega | exact ⟨rfl, by decide, by simp only [List.length_map, Nat.zero_add]; omega⟩) ?_; conv => whnf)
            | (refine pc_use (hcm) ?_; conv => whnf)
            | (refine pc_head (hcm) ?_; conv => whnf)
            | (rw [nbeq]; conv => whnf)
            | (refine HpP.force ?_; conv => whnf)
            | (intro t ht; cases t <;> conv => whnf)
          refine N_j _ ?_ ?_
          · first | trivial | assumption | omega
          · first | refine ren_env [(4, 7)] ?_ ?_ ?_ trivial | refine ren_envB [(4, 7)] rfl rfl ?_ ?_ ?_ trivial
            · repeat' first
                | exact trivial
                | refine ⟨⟨by first | rfl | assumption | exact congrArg (fun n => AV.d (iD n)) e_j | exact congrArg (fun n => AV.d (iD n)) hix.symm, rfl⟩, ?_⟩
            · repeat' first
                | exact trivial
                | refine ⟨⟨ltB rfl, _, rfl, by first | rfl | assumption | exact get_ren rfl (by first | rfl | assumption | exact get_ren rfl (by rw [hsn]; exact congrArg some (dblk_snoc rfl))) | exact get_ren rfl (by rw [hsn]; exact congrArg some (dblk_snoc rfl)), by first | exact below1 rfl | exact below_dblk _ _ _ | exact below_arr rfl⟩, ?_⟩
            · repeat' first
                | exact trivial
                | (refine And.intro ?_ ?_)
                | exact fun _ => rfl
                | exact fun h => absurd h (Nat.ne_of_beq_eq_false rfl)
        | false =>
          rw [hc] at hcm hsn
          rw [if_neg (by decide)] at hsn
          rcases idx_case (fun q => !comV q p) (L.take j) with ⟨hf, hi2⟩ | ⟨i, hil, hi2, hf⟩
          · rw [hf] at hsn
            dsimp only at hsn
            have hix : idxI (fun q => !comV q p) (L.take (j + 1)) = j := idxI_new h_j (by simp [hc]) hi2
            rw [hi2]
            generalize L[j] = q at hsn hgq hcm
            conv => whnf
            repeat (refine LookP.mk _ rfl ?_; conv => whnf)
            intro t ht
            cases t
            · exfalso; first | (simp at ht; done) | (simp at ht; omega)
            conv => whnf
            repeat' first
              | (refine LookP.mk _ (by first | rfl | exact hgq) ?_; conv => whnf)
              | (refine ShlP.mk _ (by first | (simp only [List.set, over, List.take, List.drop, List.append_eq, List.nil_append, List.cons_append, List.length]; rfl) | rfl) ?_; conv => whnf)
              | (refine And.intro (by first | exact Nat.le_refl _ | exact ⟨by rw [List.length_map]; exact hml, by decide, by show (2 * (j + 1) + 192) * 32 ≤ 281474976710656; omega⟩ | assumption | exact ⟨by kernel_rfl, rfl⟩ | decide | omega | exact ⟨rfl, by decide, by simp only [List.length_map, Nat.zero_add]; omega⟩) ?_; conv => whnf)
              | (refine pc_use (hcm) ?_; conv => whnf)
              | (refine pc_head (hcm) ?_; conv => whnf)
              | (rw [nbeq]; conv => whnf)
              | (refine HpP.force ?_; conv => whnf)
              | (intro t ht; cases t <;> conv => whnf)
            · exact absurd ht (by decide)
            · refine N_j _ ?_ ?_
              · first | trivial | assumption | omega
              · first | refine ren_env [(4, 7)] ?_ ?_ ?_ trivial | refine ren_envB [(4, 7)] rfl rfl ?_ ?_ ?_ trivial
                · repeat' first
                    | exact trivial
                    | refine ⟨⟨by first | rfl | assumption | exact congrArg (fun n => AV.d (iD n)) e_j | exact congrArg (fun n => AV.d (iD n)) hix.symm, rfl⟩, ?_⟩
                · repeat' first
                    | exact trivial
                    | refine ⟨⟨ltB rfl, _, rfl, by first | rfl | assumption | exact get_ren rfl (by first | rfl | assumption | exact get_ren rfl (by rw [hsn]; exact congrArg some (dblk_snoc rfl))) | exact get_ren rfl (by rw [hsn]; exact congrArg some (dblk_snoc rfl)), by first | exact below1 rfl | exact below_dblk _ _ _ | exact below_arr rfl⟩, ?_⟩
                · repeat' first
                    | exact trivial
                    | (refine And.intro ?_ ?_)
                    | exact fun _ => rfl
                    | exact fun h => absurd h (Nat.ne_of_beq_eq_false rfl)
          · rw [hf] at hsn
            dsimp only at hsn
            have hix := idxI_old (p := fun q => !comV q p) h_j hi2
            have hij : i < j := by rw [List.length_take] at hil; omega
            have hiL : i < L.length := by omega
            have eL : (L.take j)[i] = L[i] := by simp
            rw [eL] at hsn
            have hfv := hSv _ (List.getElem_mem hiL)
            have hmul := mulS_c (G := G) L[i] L[j] (by rw [vl_w hfv]; omega) (by rw [vl_w hqv, vl_w hfv])
            have hgf : (L.map Ps.l)[((i : Nat) : Int).toNat]? = some (L[i]).l := get_l hiL
            rw [hi2]
            generalize L[j] = q at hsn hgq hcm hmul
            generalize L[i] = f at hsn hgf hmul
            generalize mulS f q = r at hsn hmul
            conv => whnf
            repeat (refine LookP.mk _ rfl ?_; conv => whnf)
            intro t ht
            cases t
            · exfalso; first | (simp at ht; done) | (simp at ht; omega)
            conv => whnf
            repeat' first
              | (refine LookP.mk _ (by first | rfl | exact hgq | exact hgf) ?_; conv => whnf)
              | (refine ShlP.mk _ (by first | (simp only [List.set, over, List.take, List.drop, List.append_eq, List.nil_append, List.cons_append, List.length]; rfl) | rfl) ?_; conv => whnf)
              | (refine And.intro (by first | exact Nat.le_refl _ | exact ⟨by rw [List.length_map]; exact hml, by decide, by show (2 * (j + 1) + 192) * 32 ≤ 281474976710656; omega⟩ | assumption | exact ⟨by kernel_rfl, rfl⟩ | decide | omega | exact ⟨rfl, by decide, by simp only [List.length_map, Nat.zero_add]; omega⟩) ?_; conv => whnf)
              | (refine pc_use (hcm) ?_; conv => whnf)
              | (refine pc_head (hcm) ?_; conv => whnf)
              | (refine pc_use (hmul) ?_; conv => whnf)
              | (refine pc_head (hmul) ?_; conv => whnf)
              | (rw [nbeq]; conv => whnf)
              | (refine HpP.force ?_; conv => whnf)
              | (intro t ht; cases t <;> conv => whnf)
            · refine N_j _ ?_ ?_
              · first | trivial | assumption | omega
              · first | refine ren_env [(4, 7)] ?_ ?_ ?_ trivial | refine ren_envB [(4, 7)] rfl rfl ?_ ?_ ?_ trivial
                · repeat' first
                    | exact trivial
                    | refine ⟨⟨by first | rfl | assumption | exact congrArg (fun n => AV.d (iD n)) e_j | exact congrArg (fun n => AV.d (iD n)) hix.symm, rfl⟩, ?_⟩
                · repeat' first
                    | exact trivial
                    | refine ⟨⟨ltB rfl, _, rfl, by first | rfl | assumption | exact get_ren rfl (by first | rfl | assumption | exact get_ren rfl (by rw [hsn]; exact congrArg some (dblk_snoc rfl))) | exact get_ren rfl (by rw [hsn]; exact congrArg some (dblk_snoc rfl)), by first | exact below1 rfl | exact below_dblk _ _ _ | exact below_arr rfl⟩, ?_⟩
                · repeat' first
                    | exact trivial
                    | (refine And.intro ?_ ?_)
                    | exact fun _ => rfl
                    | exact fun h => absurd h (Nat.ne_of_beq_eq_false rfl)
            · exfalso; simp at ht; omega
      · intro A_last I_last
        have hT : L.take L.length = L := List.take_of_length_le (Nat.le_refl _)
        rw [hT]
        have hml : ((prjL p L).map Ps.l).length = L.length := by rw [List.length_map, prjL_len]
        conv => whnf
        repeat (refine LookP.mk _ rfl ?_; conv => whnf)
        intro t ht
        cases t
        rotate_left
        · exfalso; first | (simp at ht; done) | (simp at ht; omega)
        conv => whnf
        repeat' first
          | (refine LookP.mk _ rfl ?_; conv => whnf)
          | (refine ShlP.mk _ (by first | (simp only [List.set, over, List.take, List.drop, List.append_eq, List.nil_append, List.cons_append, List.length]; rfl) | rfl) ?_; conv => whnf)
          | (refine And.intro (by first | assumption | exact ⟨by kernel_rfl, rfl⟩ | decide | omega | exact ⟨rfl, by decide, by simp only [List.length_map, Nat.zero_add]; omega⟩) ?_; conv => whnf)
          | (refine HpP.force ?_; conv => whnf)
          | (intro t ht; cases t <;> conv => whnf)
        refine N_k _ (hnn e2) ?_
        refine Sub.trans (sub_freeze1 (nm := 4) (b := 1) (sz := 4) (N := L.length) (es := (prjL p L).map Ps.l) (a := iD w) (t := false) rfl rfl hml.symm (by decide)) ?_
        refine keep_env (by first | exact Nat.zero_le _ | exact Nat.le_of_ble_eq_true rfl) ?_ ?_ trivial
        · repeat' first
            | exact trivial
            | refine ⟨⟨by first | rfl | assumption | exact congrArg (fun n => AV.d (iD n)) e_k | (rw [hnx]; rfl), rfl⟩, ?_⟩
        · repeat' first
            | exact trivial
            | refine ⟨⟨ltB rfl, _, rfl, by first | rfl | assumption | (rw [hnx]; rfl), by first | exact below1 rfl | exact below_dblk _ _ _ | exact below_arr rfl⟩, ?_⟩
    · have e1 : e = 1 := by simpa using ht
      rw [if_pos e1] at hnx
      refine N_k _ ?_ ?_
      · (refine hnn ?_; rw [e1]; decide)
      · refine keep_env (by first | exact Nat.zero_le _ | exact Nat.le_of_ble_eq_true rfl) ?_ ?_ trivial
        · repeat' first
            | exact trivial
            | refine ⟨⟨by first | rfl | assumption | exact congrArg (fun n => AV.d (iD n)) e_k | (rw [hnx]; rfl), rfl⟩, ?_⟩
        · repeat' first
            | exact trivial
            | refine ⟨⟨ltB rfl, _, rfl, by first | rfl | assumption | (rw [hnx]; rfl), by first | exact below1 rfl | exact below_dblk _ _ _ | exact below_arr rfl⟩, ?_⟩
    · have e1 : e = -1 := by simpa using ht
      rw [hout e1]
      exact fin rfl
  · intro A_last I_last
    conv => whnf
    repeat (refine LookP.mk _ rfl ?_; conv => whnf)
    intro t ht
    cases t
    rotate_left
    · exfalso; first | (simp at ht; done) | (simp at ht; omega)
    conv => whnf
    repeat' first
      | (refine LookP.mk _ rfl ?_; conv => whnf)
      | (refine ShlP.mk _ (by first | (simp only [List.set, over, List.take, List.drop, List.append_eq, List.nil_append, List.cons_append, List.length]; rfl) | rfl) ?_; conv => whnf)
      | (refine And.intro (by first | assumption | exact ⟨by kernel_rfl, rfl⟩ | decide | omega | exact ⟨rfl, by decide, by simp only [List.length_map, Nat.zero_add]; omega⟩) ?_; conv => whnf)
      | (refine HpP.force ?_; conv => whnf)
      | (intro t ht; cases t <;> conv => whnf)
    have e : ovR w l' l = ((orSt w l' l l.length).2 : Nat) := by
      unfold ovR
      rw [if_neg fun h => ?_]
      obtain ⟨k, hk, he⟩ := List.any_eq_true.1 h
      exact I_last k (List.mem_range.1 hk) (by simpa using he)
    rw [e]
    exact fin rfl
end Go.Tz


/-! ref14.Entropy. -/
namespace Go.Tz
open Go Go.AL Go.Proofs Go.Ma
variable {G : Nat → Option (List D)}
def withS (q : Ps) (n l : Int) : Ps := ⟨q.w, (withI q.x q.z n l).1, (withI q.x q.z n l).2, q.p⟩
/-- A string on some wires. -/
def restS (w : Int) (q : Ps) (ks : List Int) : Ps := ks.foldl (fun a k => withS a k (letterI q.x q.z k)) ⟨w, 0, 0, 0⟩
theorem rest_w (w : Int) (q : Ps) : ∀ (ks : List Int) (a : Ps), a.w = w → (ks.foldl (fun a k => withS a k (letterI q.x q.z k)) a).w = w
  | [], _, h => h
  | k :: ks, a, h => rest_w w q ks (withS a k (letterI q.x q.z k)) h
theorem rest_snoc (w : Int) (q : Ps) (ks : List Int) (k : Int) : restS w q (ks ++ [k]) = withS (restS w q ks) k (letterI q.x q.z k) := by simp [restS]
theorem withS_c (q : Ps) (n l : Int) (hn : 0 ≤ n) : PC Pr G 102 [q.d, iD n, iD l] (withS q n l).d := with_c q.w q.x q.z q.p n l hn
theorem chk29 : chkFn Tryz.f29 = true := by kernel_rfl
/-- The entropy, as the reference tells it. -/
def entR (w : Nat) (l : List Ps) (ks : List Int) : Int := isub .i64 (rankN (redRows (l.map fun q => restS w q ks) (2 * w))) ks.length
theorem ent29 {w : Nat} (l : List Ps) (t : Bool) (ks : List Int) (u : Bool) (hn : l.length ≤ 1000) (hpos : 0 < l.length) (hkn : ks.length ≤ 1000) (hk : ∀ k, k ∈ ks → 0 ≤ k) (hw1 : 1 ≤ w) (hw2 : w ≤ 12) :
    PC Pr G 29 [stD w l t, intsD ks u] (iD (entR w l ks)) := by
  have hrk := rank104 (G := G) (l.map fun q => restS w q ks) false w (by simpa using hn) (by simpa using hpos) (by intro q hq; obtain ⟨q', _, rfl⟩ := List.mem_map.1 hq; exact rest_w _ _ _ _ rfl) (by omega) (by omega)
  rw [Int.toNat_natCast] at hrk
  unfold entR
  generalize (rankN (redRows (l.map fun q => restS w q ks) (2 * w))) = rk at hrk ⊢
  refine pc_walk pok Tryz.func29 chk29 ?_
  conv => whnf
  repeat' first
    | (refine LookP.mk _ rfl ?_; conv => whnf)
    | (refine ShlP.mk _ (by first | (simp only [List.set, over, List.take, List.drop, List.append_eq, List.nil_append, List.cons_append, List.length]; rfl) | rfl) ?_; conv => whnf)
    | (refine And.intro (by first | assumption | exact ⟨by kernel_rfl, rfl⟩ | decide | omega | exact ⟨rfl, by decide, by simp only [List.length_map, Nat.zero_add]; omega⟩) ?_; conv => whnf)
    | (refine HpP.force ?_; conv => whnf)
    | (intro t ht; cases t <;> conv => whnf)
  refine for_use pok (fun i => ⟨[(1, .d (intsD ks u)), (2, .ptr 0 2 0 0), (5, .sl 1 4 0 i i false), (6, .d (iD i))], [(0, some (.arr 2 [[.d (iD w), .d (rowsD l t)]])), (1, some (dblk 4 (((l.map fun q => restS w q ks).take i).map Ps.l)))], 2⟩) (l.length) (fun _ => True) (trivial) ?_ (by kernel_rfl) ?_ ?_
  · refine Sub.trans (sub_nil (t := 5) (S := 4) (Nat.zero_le _) rfl) ?_
    refine keep_env (by first | exact Nat.zero_le _ | exact Nat.le_of_ble_eq_true rfl) ?_ ?_ trivial
    · repeat' first
        | exact trivial
        | refine ⟨⟨by first | rfl | assumption, rfl⟩, ?_⟩
    · repeat' first
        | exact trivial
        | refine ⟨⟨ltB rfl, _, rfl, by first | rfl | assumption, by first | exact below1 rfl | exact below_dblk _ _ _ | exact below_arr rfl⟩, ?_⟩
  · intro i A_i h_i I_i N_i
    have e_i : iadd .i64 (i : Int) 1 = ((i + 1 : Nat) : Int) := iadd_nat (by first | omega | (simp at *; omega))
    have hgl := get_l h_i
    have hsn : ((l.map fun q => restS w q ks).take (i + 1)).map Ps.l = ((l.map fun q => restS w q ks).take i).map Ps.l ++ [(restS w l[i] ks).l] := by
      rw [take_snoc (by simpa using h_i), List.map_append]; simp
    have hml : (((l.map fun q => restS w q ks).take i).map Ps.l).length = i := by simp; omega
    generalize ((l.map fun q => restS w q ks).take i).map Ps.l = M at hsn hml ⊢
    generalize l[i] = q at hsn hgl
    conv => whnf
    repeat (refine LookP.mk _ rfl ?_; conv => whnf)
    intro t ht
    cases t
    · exfalso; first | (simp at ht; done) | (simp at ht; omega)
    conv => whnf
    repeat' first
      | (refine LookP.mk _ rfl ?_; conv => whnf)
      | (refine ShlP.mk _ (by first | (simp only [List.set, over, List.take, List.drop, List.append_eq, List.nil_append, List.cons_append, List.length]; rfl) | rfl) ?_; conv => whnf)
      | (refine And.intro (by first | assumption | exact ⟨by kernel_rfl, rfl⟩ | decide | omega | exact ⟨rfl, by decide, by simp only [List.length_map, Nat.zero_add]; omega⟩) ?_; conv => whnf)
      | (refine HpP.force ?_; conv => whnf)
      | (intro t ht; cases t <;> conv => whnf)
    refine for_use pok (fun j => ⟨[(1, .d (intsD ks u)), (2, .ptr 0 2 0 0), (5, .sl 1 4 0 i i false), (6, .d (iD i)), (7, .ptr 2 4 0 0), (8, .d (iD j))], [(0, some (.arr 2 [[.d (iD w), .d (rowsD l t)]])), (1, some (dblk 4 M)), (2, some (.arr 4 [(restS w q (ks.take j)).l.map AV.d]))], 3⟩) (ks.length) (fun _ => True) (trivial) ?_ (by kernel_rfl) ?_ ?_
    · refine keep_env (by first | exact Nat.zero_le _ | exact Nat.le_of_ble_eq_true rfl) ?_ ?_ trivial
      · repeat' first
          | exact trivial
          | refine ⟨⟨by first | rfl | assumption, rfl⟩, ?_⟩
      · repeat' first
          | exact trivial
          | refine ⟨⟨ltB rfl, _, rfl, by first | rfl | assumption, by first | exact below1 rfl | exact below_dblk _ _ _ | exact below_arr rfl⟩, ?_⟩
    · intro j A_j h_j I_j N_j
      have e_j : iadd .i64 (j : Int) 1 = ((j + 1 : Nat) : Int) := iadd_nat (by first | omega | (simp at *; omega))
      have hkj := hk _ (List.getElem_mem h_j)
      have hr := rest_snoc w q (ks.take j) ks[j]
      rw [← take_snoc h_j] at hr
      have hgk := get_i h_j
      generalize restS w q (ks.take j) = a at hr ⊢
      generalize ks[j] = v at hkj hr hgk
      conv => whnf
      repeat (refine LookP.mk _ rfl ?_; conv => whnf)
      intro t ht
      cases t
      · exfalso; first | (simp at ht; done) | (simp at ht; omega)
      conv => whnf
      repeat' first
        | (refine LookP.mk _ (by first | rfl | exact hgl | exact hgk) ?_; conv => whnf)
        | (refine ShlP.mk _ (by first | (simp only [List.set, over, List.take, List.drop, List.append_eq, List.nil_append, List.cons_append, List.length]; rfl) | rfl) ?_; conv => whnf)
        | (refine And.intro (by first | assumption | exact ⟨by kernel_rfl, rfl⟩ | decide | omega | exact ⟨rfl, by decide, by simp only [List.length_map, Nat.zero_add]; omega⟩) ?_; conv => whnf)
        | (refine pc_use (letter_c _ _ _ _ _ hkj) ?_; conv => whnf)
        | (refine pc_head (letter_c _ _ _ _ _ hkj) ?_; conv => whnf)
        | (refine pc_use (withS_c _ _ _ hkj) ?_; conv => whnf)
        | (refine pc_head (withS_c _ _ _ hkj) ?_; conv => whnf)
        | (refine HpP.force ?_; conv => whnf)
        | (intro t ht; cases t <;> conv => whnf)
      refine N_j _ ?_ ?_
      · first | trivial | assumption | omega
      · refine keep_env (by first | exact Nat.zero_le _ | exact Nat.le_of_ble_eq_true rfl) ?_ ?_ trivial
        · repeat' first
            | exact trivial
            | refine ⟨⟨by first | rfl | assumption | exact congrArg (fun n => AV.d (iD n)) e_j, rfl⟩, ?_⟩
        · repeat' first
            | exact trivial
            | refine ⟨⟨ltB rfl, _, rfl, by first | rfl | assumption | (rw [hr]; rfl), by first | exact below1 rfl | exact below_dblk _ _ _ | exact below_arr rfl⟩, ?_⟩
    · intro A_last I_last
      rw [List.take_length]
      generalize restS w q ks = r at hsn ⊢
      conv => whnf
      repeat (refine LookP.mk _ rfl ?_; conv => whnf)
      intro t ht
      cases t
      rotate_left
      · exfalso; first | (simp at ht; done) | (simp at ht; omega)
      conv => whnf
      repeat' first
        | (refine LookP.mk _ rfl ?_; conv => whnf)
        | (refine ShlP.mk _ (by first | (simp only [List.set, over, List.take, List.drop, List.append_eq, List.nil_append, List.cons_append, List.length]; rfl) | rfl) ?_; conv => whnf)
        | (refine And.intro (by first | exact Nat.le_refl _ | exact ⟨by rw [List.length_map]; exact hml, by decide, by show (2 * (i + 1) + 192) * 32 ≤ 281474976710656; omega⟩ | assumption | exact ⟨by kernel_rfl, rfl⟩ | decide | omega | exact ⟨rfl, by decide, by simp only [List.length_map, Nat.zero_add]; omega⟩) ?_; conv => whnf)
        | (rw [nbeq]; conv => whnf)
        | (refine HpP.force ?_; conv => whnf)
        | (intro t ht; cases t <;> conv => whnf)
      refine N_i _ ?_ ?_
      · first | trivial | assumption | omega
      · first | refine ren_env [(1, 4)] ?_ ?_ ?_ trivial | refine ren_envB [(1, 4)] rfl rfl ?_ ?_ ?_ trivial
        · repeat' first
            | exact trivial
            | refine ⟨⟨by first | rfl | assumption | exact congrArg (fun n => AV.d (iD n)) e_i, rfl⟩, ?_⟩
        · repeat' first
            | exact trivial
            | refine ⟨⟨ltB rfl, _, rfl, by first | rfl | assumption | exact get_ren rfl (by first | rfl | assumption | exact get_ren rfl (by rw [hsn]; exact congrArg some (dblk_snoc rfl))) | exact get_ren rfl (by rw [hsn]; exact congrArg some (dblk_snoc rfl)), by first | exact below1 rfl | exact below_dblk _ _ _ | exact below_arr rfl⟩, ?_⟩
        · repeat' first
            | exact trivial
            | (refine And.intro ?_ ?_)
            | exact fun _ => rfl
            | exact fun h => absurd h (Nat.ne_of_beq_eq_false rfl)
  · intro A_last I_last
    have hT : (l.map fun q => restS w q ks).take l.length = l.map fun q => restS w q ks := List.take_of_length_le (by simp)
    rw [hT]
    have hTl : (l.map fun q => restS w q ks).length = l.length := by simp
    generalize (l.map fun q => restS w q ks) = T at hrk hTl ⊢
    conv => whnf
    repeat (refine LookP.mk _ rfl ?_; conv => whnf)
    intro t ht
    cases t
    rotate_left
    · exfalso; first | (simp at ht; done) | (simp at ht; omega)
    conv => whnf
    repeat' first
      | (refine LookP.mk _ rfl ?_; conv => whnf)
      | (refine ShlP.mk _ (by first | (simp only [List.set, over, List.take, List.drop, List.append_eq, List.nil_append, List.cons_append, List.length]; rfl) | rfl) ?_; conv => whnf)
      | (refine And.intro (by first | assumption | exact ⟨by kernel_rfl, rfl⟩ | decide | omega | exact ⟨rfl, by decide, by simp only [List.length_map, Nat.zero_add]; omega⟩) ?_; conv => whnf)
      | (refine pc_lend1 hrk (asD_dblk rfl (by simp [hTl])) rfl ?_; conv => whnf)
      | (refine HpP.force ?_; conv => whnf)
      | (intro t ht; cases t <;> conv => whnf)
    refine fin ?_
    rw [List.length_map]
end Go.Tz


/-! slices for ints: Clone, Equal, Index, Contains. -/
namespace Go.Tz
open Go Go.AL Go.Proofs
variable {G : Nat → Option (List D)}
theorem chk24 : chkFn Tryz.f24 = true := by kernel_rfl
theorem ints_sc (l : List Int) : (((l.map fun k => [iD k]).map (·.map AV.d)).all fun el => el.all AV.scalar) = true := by
  simp [AV.scalar, D.scalar]
theorem clone24 (es : List (List D)) (tg : Bool) (hes : ∀ el, el ∈ es → el.length = 1) (hsc : ((es.map (·.map AV.d)).all fun el => el.all AV.scalar) = true) (hbig : es.length ≤ 1000000) :
    ACall Pr G 24 [.d (.sl es tg)] [] 0 fun v N k => (v = .d (.sl [] true) ∧ es = []) ∨ (v = .sl 1 1 0 (0 + es.length) (0 + es.length) false ∧ N.get 1 = some (.arr 1 (es.map (·.map .d))) ∧ k = 2) := by
  refine fn_walk pok Tryz.func24 chk24 ?_
  conv => whnf
  repeat' first
    | (refine LookP.mk _ rfl ?_; conv => whnf)
    | (refine ShlP.mk _ (by first | (simp only [List.set, over, List.take, List.drop, List.append_eq, List.nil_append, List.cons_append, List.length]; rfl) | rfl) ?_; conv => whnf)
    | (refine And.intro (by first | exact ⟨rfl, by decide, by simp only [List.length_map, Nat.zero_add]; omega⟩ | assumption | exact ⟨by kernel_rfl, rfl⟩ | decide | omega | exact ⟨rfl, by decide, by simp only [List.length_map, Nat.zero_add]; omega⟩) ?_; conv => whnf)
    | (rw [hsc]; conv => whnf)
    | (refine HpP.force ?_; conv => whnf)
    | (intro t ht; cases t <;> conv => whnf)
  · refine fin (.inr ⟨by simp, ?_, rfl⟩)
    simp [chunk, AHeap.get]
  · refine fin (.inl ⟨rfl, ?_⟩)
    cases es with
    | nil => rfl
    | cons a l => simp at ht
theorem cloneI (l : List Int) (t : Bool) (hn : l.length ≤ 1000000) : PC Pr G 24 [intsD l t] (intsD l false) := by
  refine pc_freezeW (isFn_of Tryz.func24 chk24) (acall_mono (clone24 _ t (fun el h => by obtain ⟨q, _, rfl⟩ := List.mem_map.1 h; rfl) (ints_sc l) (by simpa using hn)) ?_)
  rintro v N k (⟨rfl, he⟩ | ⟨rfl, hg, _⟩)
  · exact ⟨_, .d _, by show DW _ (.sl _ false); rw [he]; exact dw_sl [] true⟩
  · have := asD_sl_map (lo := 0) (len := 0 + (l.map fun k => [iD k]).length) (room := 0 + (l.map fun k => [iD k]).length) (t := false) hg (by omega)
    refine ⟨_, this, ?_⟩
    simp only [List.drop_zero, Nat.zero_add, List.take_length, Bool.false_and]
    exact DW.rfl _
theorem chk38 : chkFn Tryz.f38 = true := by kernel_rfl
theorem equal38 (l : List Int) (t u : Bool) (hn : l.length ≤ 1000000) : PC Pr G 38 [intsD l t, intsD l u] (.bool true) := by
  refine pc_walk pok Tryz.func38 chk38 ?_
  conv => whnf
  repeat' first
    | (refine LookP.mk _ rfl ?_; conv => whnf)
    | (refine ShlP.mk _ (by first | (simp only [List.set, over, List.take, List.drop, List.append_eq, List.nil_append, List.cons_append, List.length]; rfl) | rfl) ?_; conv => whnf)
    | (refine And.intro (by first | assumption | exact ⟨by kernel_rfl, rfl⟩ | decide | omega | exact ⟨rfl, by decide, by simp only [List.length_map, Nat.zero_add]; omega⟩) ?_; conv => whnf)
    | (refine HpP.force ?_; conv => whnf)
    | (intro t ht; cases t <;> conv => whnf)
  · refine for_use pok (fun k => ⟨[(0, .d (intsD l t)), (1, .d (intsD l u)), (12, .d (iD (l.map fun k => [iD k]).length)), (13, .d (iD k))], [], 0⟩) (l.length) (fun _ => True) (trivial) ?_ (by kernel_rfl) ?_ ?_
    · refine keep_env (by first | exact Nat.zero_le _ | exact Nat.le_of_ble_eq_true rfl) ?_ ?_ trivial
      · repeat' first
          | exact trivial
          | refine ⟨⟨by first | rfl | assumption, rfl⟩, ?_⟩
      · repeat' first
          | exact trivial
          | refine ⟨⟨ltB rfl, _, rfl, by first | rfl | assumption, by first | exact below1 rfl | exact below_dblk _ _ _ | exact below_arr rfl⟩, ?_⟩
    · intro k A_k h_k I_k N_k
      have e_k : iadd .i64 (k : Int) 1 = ((k + 1 : Nat) : Int) := iadd_nat (by first | omega | (simp at *; omega))
      have hg := get_i h_k
      conv => whnf
      repeat (refine LookP.mk _ rfl ?_; conv => whnf)
      intro t ht
      cases t
      · exfalso; first | (simp at ht; done) | (simp at ht; omega)
      conv => whnf
      repeat' first
        | (refine LookP.mk _ (by first | rfl | exact hg) ?_; conv => whnf)
        | (refine ShlP.mk _ (by first | (simp only [List.set, over, List.take, List.drop, List.append_eq, List.nil_append, List.cons_append, List.length]; rfl) | rfl) ?_; conv => whnf)
        | (refine And.intro (by first | assumption | exact ⟨by kernel_rfl, rfl⟩ | decide | omega | exact ⟨rfl, by decide, by simp only [List.length_map, Nat.zero_add]; omega⟩) ?_; conv => whnf)
        | (refine HpP.force ?_; conv => whnf)
        | (intro t ht; cases t <;> conv => whnf)
      · refine N_k _ ?_ ?_
        · first | trivial | assumption | omega
        · refine keep_env (by first | exact Nat.zero_le _ | exact Nat.le_of_ble_eq_true rfl) ?_ ?_ trivial
          · repeat' first
              | exact trivial
              | refine ⟨⟨by first | rfl | assumption | exact congrArg (fun n => AV.d (iD n)) e_k, rfl⟩, ?_⟩
          · repeat' first
              | exact trivial
              | refine ⟨⟨ltB rfl, _, rfl, by first | rfl | assumption, by first | exact below1 rfl | exact below_dblk _ _ _ | exact below_arr rfl⟩, ?_⟩
      · exfalso; simp at ht
    · intro A_last I_last
      conv => whnf
      repeat (refine LookP.mk _ rfl ?_; conv => whnf)
      intro t ht
      cases t
      rotate_left
      · exfalso; first | (simp at ht; done) | (simp at ht; omega)
      conv => whnf
      repeat' first
        | (refine LookP.mk _ rfl ?_; conv => whnf)
        | (refine ShlP.mk _ (by first | (simp only [List.set, over, List.take, List.drop, List.append_eq, List.nil_append, List.cons_append, List.length]; rfl) | rfl) ?_; conv => whnf)
        | (refine And.intro (by first | assumption | exact ⟨by kernel_rfl, rfl⟩ | decide | omega | exact ⟨rfl, by decide, by simp only [List.length_map, Nat.zero_add]; omega⟩) ?_; conv => whnf)
        | (refine HpP.force ?_; conv => whnf)
        | (intro t ht; cases t <;> conv => whnf)
      exact fin rfl
  · exfalso; simp at ht
theorem chk99 : chkFn Tryz.f99 = true := by kernel_rfl
theorem idx99 (l : List Int) (t : Bool) (v : Int) (hn : l.length ≤ 1000000) : PC Pr G 99 [intsD l t, iD v] (iD (idxI (fun k => decide (v = k)) l)) := by
  refine pc_walk pok Tryz.func99 chk99 ?_
  conv => whnf
  repeat' first
    | (refine LookP.mk _ rfl ?_; conv => whnf)
    | (refine ShlP.mk _ (by first | (simp only [List.set, over, List.take, List.drop, List.append_eq, List.nil_append, List.cons_append, List.length]; rfl) | rfl) ?_; conv => whnf)
    | (refine And.intro (by first | assumption | exact ⟨by kernel_rfl, rfl⟩ | decide | omega | exact ⟨rfl, by decide, by simp only [List.length_map, Nat.zero_add]; omega⟩) ?_; conv => whnf)
    | (refine HpP.force ?_; conv => whnf)
    | (intro t ht; cases t <;> conv => whnf)
  refine for_use pok (fun k => ⟨[(0, .d (intsD l t)), (1, .d (iD v)), (7, .d (iD (l.map fun k => [iD k]).length)), (8, .d (iD k))], [], 0⟩) (l.length) (fun k => ∀ q, q ∈ l.take k → decide (v = q) = false) (by simp) ?_ (by kernel_rfl) ?_ ?_
  · refine keep_env (by first | exact Nat.zero_le _ | exact Nat.le_of_ble_eq_true rfl) ?_ ?_ trivial
    · repeat' first
        | exact trivial
        | refine ⟨⟨by first | rfl | assumption, rfl⟩, ?_⟩
    · repeat' first
        | exact trivial
        | refine ⟨⟨ltB rfl, _, rfl, by first | rfl | assumption, by first | exact below1 rfl | exact below_dblk _ _ _ | exact below_arr rfl⟩, ?_⟩
  · intro k A_k h_k I_k N_k
    have e_k : iadd .i64 (k : Int) 1 = ((k + 1 : Nat) : Int) := iadd_nat (by first | omega | (simp at *; omega))
    have hg := get_i h_k
    conv => whnf
    repeat (refine LookP.mk _ rfl ?_; conv => whnf)
    intro t ht
    cases t
    · exfalso; first | (simp at ht; done) | (simp at ht; omega)
    conv => whnf
    repeat' first
      | (refine LookP.mk _ (by first | rfl | exact hg) ?_; conv => whnf)
      | (refine ShlP.mk _ (by first | (simp only [List.set, over, List.take, List.drop, List.append_eq, List.nil_append, List.cons_append, List.length]; rfl) | rfl) ?_; conv => whnf)
      | (refine And.intro (by first | assumption | exact ⟨by kernel_rfl, rfl⟩ | decide | omega | exact ⟨rfl, by decide, by simp only [List.length_map, Nat.zero_add]; omega⟩) ?_; conv => whnf)
      | (refine HpP.force ?_; conv => whnf)
      | (intro t ht; cases t <;> conv => whnf)
    · have hnx : ∀ q, q ∈ l.take (k + 1) → decide (v = q) = false := by
        rw [take_snoc h_k]
        intro q hq
        rcases List.mem_append.1 hq with h | h
        · exact I_k q h
        · rw [List.mem_singleton.1 h]; simpa using ht
      refine N_k _ ?_ ?_
      · first | trivial | assumption | omega
      · refine keep_env (by first | exact Nat.zero_le _ | exact Nat.le_of_ble_eq_true rfl) ?_ ?_ trivial
        · repeat' first
            | exact trivial
            | refine ⟨⟨by first | rfl | assumption | exact congrArg (fun n => AV.d (iD n)) e_k, rfl⟩, ?_⟩
        · repeat' first
            | exact trivial
            | refine ⟨⟨ltB rfl, _, rfl, by first | rfl | assumption, by first | exact below1 rfl | exact below_dblk _ _ _ | exact below_arr rfl⟩, ?_⟩
    · rw [idxI_some h_k (by simpa using ht) I_k]
      exact fin rfl
  · intro A_last I_last
    rw [List.take_length] at I_last
    conv => whnf
    repeat (refine LookP.mk _ rfl ?_; conv => whnf)
    intro t ht
    cases t
    rotate_left
    · exfalso; first | (simp at ht; done) | (simp at ht; omega)
    conv => whnf
    repeat' first
      | (refine LookP.mk _ rfl ?_; conv => whnf)
      | (refine ShlP.mk _ (by first | (simp only [List.set, over, List.take, List.drop, List.append_eq, List.nil_append, List.cons_append, List.length]; rfl) | rfl) ?_; conv => whnf)
      | (refine And.intro (by first | assumption | exact ⟨by kernel_rfl, rfl⟩ | decide | omega | exact ⟨rfl, by decide, by simp only [List.length_map, Nat.zero_add]; omega⟩) ?_; conv => whnf)
      | (refine HpP.force ?_; conv => whnf)
      | (intro t ht; cases t <;> conv => whnf)
    rw [idxI_none I_last]
    exact fin rfl
theorem chk25 : chkFn Tryz.f25 = true := by kernel_rfl
theorem has25 (l : List Int) (t : Bool) (v : Int) (hn : l.length ≤ 1000000) : PC Pr G 25 [intsD l t, iD v] (.bool (decide (v ∈ l))) := by
  have hi := idx99 (G := G) l t v hn
  have e : decide (v ∈ l) = decide (idxI (fun k => decide (v = k)) l ≥ 0) := by
    rw [idxI_ge, Bool.eq_iff_iff, decide_eq_true_eq, List.any_eq_true]
    constructor
    · intro h; exact ⟨v, h, by simp⟩
    · rintro ⟨q, hq, h⟩; rw [of_decide_eq_true h]; exact hq
  rw [e]
  generalize idxI (fun k => decide (v = k)) l = i at hi ⊢
  refine pc_walk pok Tryz.func25 chk25 ?_
  conv => whnf
  repeat' first
    | (refine LookP.mk _ rfl ?_; conv => whnf)
    | (refine ShlP.mk _ (by first | (simp only [List.set, over, List.take, List.drop, List.append_eq, List.nil_append, List.cons_append, List.length]; rfl) | rfl) ?_; conv => whnf)
    | (refine And.intro (by first | assumption | exact ⟨by kernel_rfl, rfl⟩ | decide | omega | exact ⟨rfl, by decide, by simp only [List.length_map, Nat.zero_add]; omega⟩) ?_; conv => whnf)
    | (refine pc_use (hi) ?_; conv => whnf)
    | (refine pc_head (hi) ?_; conv => whnf)
    | (refine HpP.force ?_; conv => whnf)
    | (intro t ht; cases t <;> conv => whnf)
  all_goals (rw [ht]; exact fin rfl)
end Go.Tz


/-! Results that are the caller's own: Canon, Zero. -/
namespace Go.Tz
open Go Go.AL Go.Proofs Go.Ma
variable {G : Nat → Option (List D)}
/-- A state whose rows are one's own. -/
abbrev ownV (w : Nat) (n : Nat) (t : Bool) : AV := .tup [.agg [.d (iD w), .sl 0 4 0 n n t], .d (iD 0)]
theorem canon31o {w : Nat} {l : List Ps} (hs : SOk w l) (t : Bool) : PO Pr GG 31 [stD w l t] (ownV w l.length true) [(0, some (dblk 4 ((redRows l (2 * w)).map Ps.l)))] 1 := by
  have hc := check36 w l t (by have := hs.len; have := hs.hi; omega)
  rw [ok_chk hs] at hc
  have h1 := canon105o (G := GG) ⟨hs.lo, hs.hi⟩ l t (by have := hs.len; have := hs.hi; omega) hs.vl
  refine ⟨isFn_of Tryz.func31 chk31, acall_sub (K := fun v H _ => v = .tup [.agg [.d (iD w), .sl 2 4 0 l.length l.length true], .d (iD 0)] ∧ H.get 2 = some (dblk 4 ((redRows l (2 * w)).map Ps.l))) (fn_walk pok Tryz.func31 chk31 ?_) ?_⟩
  · conv => whnf
    repeat' first
      | (refine LookP.mk _ rfl ?_; conv => whnf)
      | (refine ShlP.mk _ (by first | (simp only [List.set, over, List.take, List.drop, List.append_eq, List.nil_append, List.cons_append, List.length]; rfl) | rfl) ?_; conv => whnf)
      | (refine And.intro (by first | assumption | exact ⟨by kernel_rfl, rfl⟩ | decide | omega | exact ⟨rfl, by decide, by simp only [List.length_map, Nat.zero_add]; omega⟩) ?_; conv => whnf)
      | (refine pc_use (hc) ?_; conv => whnf)
      | (refine pc_head (hc) ?_; conv => whnf)
      | (refine po_use h1 ?_; conv => whnf)
      | (refine HpP.force ?_; conv => whnf)
      | (intro t ht; cases t <;> conv => whnf)
    · refine fin ⟨rfl, ?_⟩
      show some (Blk.ren _ (dblk 4 _)) = _
      rw [ren_dblk]
    · exact absurd ht (by decide)
  · rintro v H n ⟨rfl, h2⟩
    refine ⟨_, _, 1, ?_, rfl, rfl, rfl⟩
    first | refine ren_env [(0, 2)] ?_ ?_ ?_ trivial | refine ren_envB [(0, 2)] rfl rfl ?_ ?_ ?_ trivial
    · repeat' first
        | exact trivial
        | refine ⟨⟨by first | rfl | assumption, rfl⟩, ?_⟩
    · repeat' first
        | exact trivial
        | refine ⟨⟨ltB rfl, _, rfl, by first | rfl | assumption | exact get_ren rfl (by first | rfl | assumption | exact get_ren rfl h2) | exact get_ren rfl h2, by first | exact below1 rfl | exact below_dblk _ _ _ | exact below_arr rfl⟩, ?_⟩
    · repeat' first
        | exact trivial
        | (refine And.intro ?_ ?_)
        | exact fun _ => rfl
        | exact fun h => absurd h (Nat.ne_of_beq_eq_false rfl)
theorem chk110 : chkFn Tryz.f110 = true := by kernel_rfl
theorem zero110a {w : Nat} (hw : 1 ≤ w ∧ w ≤ 12) : ACall Pr GG 110 ([iD w].map .d) [] 0 fun v H _ => v = .agg [.d (iD w), .sl 2 4 0 w w false] ∧ H.get 2 = some (dblk 4 ((zeroS w).map Ps.l)) := by
  refine fn_walk pok Tryz.func110 chk110 ?_
  conv => whnf
  repeat' first
    | (refine LookP.mk _ rfl ?_; conv => whnf)
    | (refine ShlP.mk _ (by first | (simp only [List.set, over, List.take, List.drop, List.append_eq, List.nil_append, List.cons_append, List.length]; rfl) | rfl) ?_; conv => whnf)
    | (refine And.intro (by first | assumption | exact ⟨by kernel_rfl, rfl⟩ | decide | omega | exact ⟨rfl, by decide, by simp only [List.length_map, Nat.zero_add]; omega⟩) ?_; conv => whnf)
    | (refine HpP.force ?_; conv => whnf)
    | (intro t ht; cases t <;> conv => whnf)
  refine for_use pok (fun i => ⟨[(0, .d (iD w)), (2, .ptr 0 2 0 0), (3, .ptr 1 2 0 0), (7, .d (iD w)), (8, .d (iD i))], [(0, some (.arr 2 [[.d (iD 0), .d (.sl [] true)]])), (1, some (.arr 2 [[.d (iD w), .sl 2 4 0 i i false]])), (2, some (dblk 4 (((zeroS w).take i).map Ps.l)))], 3⟩) (w) (fun _ => True) (trivial) ?_ (by kernel_rfl) ?_ ?_
  · refine Sub.trans (sub_nilH2 (nm := 1) (S := 4) (Nat.zero_le _) rfl) ?_
    refine keep_env (by first | exact Nat.zero_le _ | exact Nat.le_of_ble_eq_true rfl) ?_ ?_ trivial
    · repeat' first
        | exact trivial
        | refine ⟨⟨by first | rfl | assumption, rfl⟩, ?_⟩
    · repeat' first
        | exact trivial
        | refine ⟨⟨ltB rfl, _, rfl, by first | rfl | assumption, by first | exact below1 rfl | exact below_dblk _ _ _ | exact below_arr rfl⟩, ?_⟩
  · intro i A_i h_i I_i N_i
    have e_i : iadd .i64 (i : Int) 1 = ((i + 1 : Nat) : Int) := iadd_nat (by first | omega | (simp at *; omega))
    have hil : i < (zeroS w).length := by simpa [zeroS] using h_i
    have hsn : ((zeroS w).take (i + 1)).map Ps.l = ((zeroS w).take i).map Ps.l ++ [[iD w, iD 0, iD (2 ^ i : Nat), iD 0]] := by
      rw [take_snoc hil, List.map_append]; simp [zeroS, Ps.l]
    have hml : (((zeroS w).take i).map Ps.l).length = i := by rw [List.length_map, List.length_take]; omega
    have hp : ishl .i64 1 (i : Int) = ((2 ^ i : Nat) : Int) := pow_nat (by omega)
    generalize ((zeroS w).take i).map Ps.l = M at hsn hml
    conv => whnf
    repeat (refine LookP.mk _ rfl ?_; conv => whnf)
    intro t ht
    cases t
    · exfalso; first | (simp at ht; done) | (simp at ht; omega)
    conv => whnf
    repeat' first
      | (refine LookP.mk _ rfl ?_; conv => whnf)
      | (refine ShlP.mk _ (by first | (simp only [List.set, over, List.take, List.drop, List.append_eq, List.nil_append, List.cons_append, List.length]; rfl) | rfl) ?_; conv => whnf)
      | (refine And.intro (by first | exact Nat.le_refl _ | exact Int.natCast_nonneg _ | exact ⟨by rw [List.length_map]; exact hml, by decide, by show (2 * (i + 1) + 192) * 32 ≤ 281474976710656; omega⟩ | assumption | exact ⟨by kernel_rfl, rfl⟩ | decide | omega | exact ⟨rfl, by decide, by simp only [List.length_map, Nat.zero_add]; omega⟩) ?_; conv => whnf)
      | (rw [nbeq]; conv => whnf)
      | (rw [hp]; conv => whnf)
      | (refine HpP.force ?_; conv => whnf)
      | (intro t ht; cases t <;> conv => whnf)
    refine N_i _ ?_ ?_
    · first | trivial | assumption | omega
    · first | refine ren_env [(2, 4)] ?_ ?_ ?_ trivial | refine ren_envB [(2, 4)] rfl rfl ?_ ?_ ?_ trivial
      · repeat' first
          | exact trivial
          | refine ⟨⟨by first | rfl | assumption | exact congrArg (fun n => AV.d (iD n)) e_i, rfl⟩, ?_⟩
      · repeat' first
          | exact trivial
          | refine ⟨⟨ltB rfl, _, rfl, by first | rfl | assumption | exact get_ren rfl (by first | rfl | assumption | exact get_ren rfl (by rw [hsn]; exact congrArg some (dblk_snoc rfl))) | exact get_ren rfl (by rw [hsn]; exact congrArg some (dblk_snoc rfl)), by first | exact below1 rfl | exact below_dblk _ _ _ | exact below_arr rfl⟩, ?_⟩
      · repeat' first
          | exact trivial
          | (refine And.intro ?_ ?_)
          | exact fun _ => rfl
          | exact fun h => absurd h (Nat.ne_of_beq_eq_false rfl)
  · intro A_last I_last
    have hT : (zeroS w).take w = zeroS w := List.take_of_length_le (by simp [zeroS])
    rw [hT]
    conv => whnf
    repeat (refine LookP.mk _ rfl ?_; conv => whnf)
    intro t ht
    cases t
    rotate_left
    · exfalso; first | (simp at ht; done) | (simp at ht; omega)
    conv => whnf
    repeat' first
      | (refine LookP.mk _ rfl ?_; conv => whnf)
      | (refine ShlP.mk _ (by first | (simp only [List.set, over, List.take, List.drop, List.append_eq, List.nil_append, List.cons_append, List.length]; rfl) | rfl) ?_; conv => whnf)
      | (refine And.intro (by first | assumption | exact ⟨by kernel_rfl, rfl⟩ | decide | omega | exact ⟨rfl, by decide, by simp only [List.length_map, Nat.zero_add]; omega⟩) ?_; conv => whnf)
      | (refine HpP.force ?_; conv => whnf)
      | (intro t ht; cases t <;> conv => whnf)
    exact fin ⟨rfl, rfl⟩
theorem zero110p {w : Nat} (hw : 1 ≤ w ∧ w ≤ 12) : PO Pr GG 110 [iD w] (.agg [.d (iD w), .sl 0 4 0 w w false]) [(0, some (dblk 4 ((zeroS w).map Ps.l)))] 1 := by
  refine ⟨isFn_of Tryz.func110 chk110, acall_sub (zero110a hw) ?_⟩
  rintro v H n ⟨rfl, h2⟩
  refine ⟨_, _, 1, ?_, rfl, rfl, rfl⟩
  first | refine ren_env [(0, 2)] ?_ ?_ ?_ trivial | refine ren_envB [(0, 2)] rfl rfl ?_ ?_ ?_ trivial
  · repeat' first
      | exact trivial
      | refine ⟨⟨by first | rfl | assumption, rfl⟩, ?_⟩
  · repeat' first
      | exact trivial
      | refine ⟨⟨ltB rfl, _, rfl, by first | rfl | assumption | exact get_ren rfl (by first | rfl | assumption | exact get_ren rfl h2) | exact get_ren rfl h2, by first | exact below1 rfl | exact below_dblk _ _ _ | exact below_arr rfl⟩, ?_⟩
  · repeat' first
      | exact trivial
      | (refine And.intro ?_ ?_)
      | exact fun _ => rfl
      | exact fun h => absurd h (Nat.ne_of_beq_eq_false rfl)
theorem zero35p {w : Nat} (hw : 1 ≤ w ∧ w ≤ 12) : PO Pr GG 35 [iD w] (ownV w w false) [(0, some (dblk 4 ((zeroS w).map Ps.l)))] 1 := by
  have h1 := zero110p hw
  refine ⟨isFn_of Tryz.func35 chk35, acall_sub (K := fun v H _ => v = .tup [.agg [.d (iD w), .sl 1 4 0 w w false], .d (iD 0)] ∧ H.get 1 = some (dblk 4 ((zeroS w).map Ps.l))) (fn_walk pok Tryz.func35 chk35 ?_) ?_⟩
  · conv => whnf
    repeat' first
      | (refine LookP.mk _ rfl ?_; conv => whnf)
      | (refine ShlP.mk _ (by first | (simp only [List.set, over, List.take, List.drop, List.append_eq, List.nil_append, List.cons_append, List.length]; rfl) | rfl) ?_; conv => whnf)
      | (refine And.intro (by first | assumption | exact ⟨by kernel_rfl, rfl⟩ | decide | omega | exact ⟨rfl, by decide, by simp only [List.length_map, Nat.zero_add]; omega⟩) ?_; conv => whnf)
      | (refine po_use h1 ?_; conv => whnf)
      | (refine HpP.force ?_; conv => whnf)
      | (intro t ht; cases t <;> conv => whnf)
    · refine fin ⟨rfl, ?_⟩
      show some (Blk.ren _ (dblk 4 _)) = _
      rw [ren_dblk]
    all_goals (exfalso; simp at ht; omega)
  · rintro v H n ⟨rfl, h2⟩
    refine ⟨_, _, 1, ?_, rfl, rfl, rfl⟩
    first | refine ren_env [(0, 1)] ?_ ?_ ?_ trivial | refine ren_envB [(0, 1)] rfl rfl ?_ ?_ ?_ trivial
    · repeat' first
        | exact trivial
        | refine ⟨⟨by first | rfl | assumption, rfl⟩, ?_⟩
    · repeat' first
        | exact trivial
        | refine ⟨⟨ltB rfl, _, rfl, by first | rfl | assumption | exact get_ren rfl (by first | rfl | assumption | exact get_ren rfl h2) | exact get_ren rfl h2, by first | exact below1 rfl | exact below_dblk _ _ _ | exact below_arr rfl⟩, ?_⟩
    · repeat' first
        | exact trivial
        | (refine And.intro ?_ ?_)
        | exact fun _ => rfl
        | exact fun h => absurd h (Nat.ne_of_beq_eq_false rfl)
end Go.Tz


/-! Copies that are the caller's own. -/
namespace Go.Tz
open Go Go.AL Go.Proofs Go.Ma
variable {G : Nat → Option (List D)}
theorem clone87o (l : List Ps) (t : Bool) (hpos : 0 < l.length) (hn : l.length ≤ 1000000) : PO Pr G 87 [rowsD l t] (.sl 0 4 0 l.length l.length false) [(0, some (dblk 4 (l.map Ps.l)))] 1 := by
  refine ⟨isFn_of Tryz.func87 chk87, acall_sub (clone87 _ t (rows_len l) (rows_sc l) (by simpa using hn)) ?_⟩
  rintro v H n (⟨rfl, he⟩ | ⟨rfl, hg, hk⟩)
  · exfalso
    have : l.length = 0 := by simpa using congrArg List.length he
    omega
  · subst hk
    rw [List.length_map, Nat.zero_add]
    refine ⟨_, _, 1, ?_, rfl, rfl, rfl⟩
    first | refine ren_env [(0, 1)] ?_ ?_ ?_ trivial | refine ren_envB [(0, 1)] rfl rfl ?_ ?_ ?_ trivial
    · repeat' first
        | exact trivial
        | refine ⟨⟨by first | rfl | assumption, rfl⟩, ?_⟩
    · repeat' first
        | exact trivial
        | refine ⟨⟨ltB rfl, _, rfl, by first | rfl | assumption | exact get_ren rfl (by first | rfl | assumption | exact get_ren rfl hg) | exact get_ren rfl hg, by first | exact below1 rfl | exact below_dblk _ _ _ | exact below_arr rfl⟩, ?_⟩
    · repeat' first
        | exact trivial
        | (refine And.intro ?_ ?_)
        | exact fun _ => rfl
        | exact fun h => absurd h (Nat.ne_of_beq_eq_false rfl)
theorem theirs18o (w : Int) (l : List Ps) (t : Bool) (hpos : 0 < l.length) (hn : l.length ≤ 1000000) : PO Pr G 18 [stD w l t] (.agg [.d (iD w), .sl 0 4 0 l.length l.length false]) [(0, some (dblk 4 (l.map Ps.l)))] 1 := by
  have h1 := clone87o (G := G) l t hpos hn
  refine ⟨isFn_of Tryz.func18 chk18, acall_sub (K := fun v H _ => v = .agg [.d (iD w), .sl 2 4 0 l.length l.length false] ∧ H.get 2 = some (dblk 4 (l.map Ps.l))) (fn_walk pok Tryz.func18 chk18 ?_) ?_⟩
  · conv => whnf
    repeat' first
      | (refine LookP.mk _ rfl ?_; conv => whnf)
      | (refine ShlP.mk _ (by first | (simp only [List.set, over, List.take, List.drop, List.append_eq, List.nil_append, List.cons_append, List.length]; rfl) | rfl) ?_; conv => whnf)
      | (refine And.intro (by first | assumption | exact ⟨by kernel_rfl, rfl⟩ | decide | omega | exact ⟨rfl, by decide, by simp only [List.length_map, Nat.zero_add]; omega⟩) ?_; conv => whnf)
      | (refine po_head h1 ?_; conv => whnf)
      | (refine ShhP.mk _ rfl ?_; conv => whnf)
      | (refine HpP.force ?_; conv => whnf)
      | (intro t ht; cases t <;> conv => whnf)
    refine fin ⟨rfl, ?_⟩
    show some (Blk.ren _ (dblk 4 _)) = _
    rw [ren_dblk]
  · rintro v H n ⟨rfl, h2⟩
    refine ⟨_, _, 1, ?_, rfl, rfl, rfl⟩
    first | refine ren_env [(0, 2)] ?_ ?_ ?_ trivial | refine ren_envB [(0, 2)] rfl rfl ?_ ?_ ?_ trivial
    · repeat' first
        | exact trivial
        | refine ⟨⟨by first | rfl | assumption, rfl⟩, ?_⟩
    · repeat' first
        | exact trivial
        | refine ⟨⟨ltB rfl, _, rfl, by first | rfl | assumption | exact get_ren rfl (by first | rfl | assumption | exact get_ren rfl h2) | exact get_ren rfl h2, by first | exact below1 rfl | exact below_dblk _ _ _ | exact below_arr rfl⟩, ?_⟩
    · repeat' first
        | exact trivial
        | (refine And.intro ?_ ?_)
        | exact fun _ => rfl
        | exact fun h => absurd h (Nat.ne_of_beq_eq_false rfl)
end Go.Tz


/-! States: the program's and the reference's strings as signed vectors. -/
namespace Go.Tz
open Go Go.AL Go.Ma
theorem eok_nf {w : Nat} (hw : w ≤ 12) {q : Ps} (h : Vl w q) : eok (nf q) ↔ q.p.tmod 2 = 0 := by
  obtain ⟨X, Z, P, rfl, h1, h2, h3⟩ := h
  have hp : (2 : Nat) ^ w ≤ 2 ^ 12 := Nat.pow_le_pow_right (by decide) hw
  have e : (mk w X Z P).p.tmod 2 = ((P % 2 : Nat) : Int) := by show ((P : Int)).tmod 2 = _; rfl
  rw [e]
  unfold eok
  rw [nf_mk]
  dsimp only
  rw [vec_bt (by omega) (by omega), Nat.and_comm Z X]
  generalize pop 12 (X &&& Z) = k
  have : (decide (k % 2 = 1)).toNat = k % 2 := by
    by_cases q : k % 2 = 1
    · rw [decide_eq_true q, q]; rfl
    · rw [decide_eq_false q]; simp; omega
  rw [this]
  constructor
  · rintro ⟨_, h⟩; omega
  · intro h; exact ⟨Nat.mod_lt _ (by decide), by omega⟩
theorem revl_rfv0 (l : List Ps) : revl (rfv l 0) l.length = (l.map vec).reverse := by
  have key : ∀ n, n ≤ l.length → revl (rfv l 0) n = ((l.take n).map vec).reverse := by
    intro n
    induction n with
    | zero => intro _; rfl
    | succ n ih =>
      intro hn
      rw [take_snoc (by omega), List.map_append, List.reverse_append, revl, ih (by omega)]
      have : rfv l 0 n = vec l[n] := by
        unfold rfv
        simp only [redN, List.getD_eq_getElem?_getD, List.getElem?_eq_getElem (show n < l.length by omega), Option.getD_some]
      rw [this]; rfl
  rw [key _ (Nat.le_refl _), List.take_length]
theorem rk_rev {l : List Nat} (h : ∀ a, a ∈ l → a < 2 ^ 24) : rk l.reverse = rk l :=
  rk_eq (k := 24) (fun a ha => h a (List.mem_reverse.1 ha)) h (sp_ext (fun a ha => sp_mem _ _ (List.mem_reverse.1 ha)) (fun a ha => sp_mem _ _ (List.mem_reverse.2 ha)))
theorem rank_ind {w : Nat} (hw : w ≤ 12) {l : List Ps} (hv : ∀ q, q ∈ l → Vl w q) : rankN (redRows l (2 * w)) = l.length ↔ Ind ((l.map nf).map (·.2)) := by
  rw [rank_rk hw hv, revl_rfv0, rk_rev]
  · unfold Ind
    rw [List.map_map, List.length_map]; rfl
  · intro a ha
    obtain ⟨q, hq, rfl⟩ := List.mem_map.1 ha
    exact vec_lt hw (hv q hq)
theorem badAt_ok {l : List Ps} {i : Nat} (h : i < l.length) : badAt l i = false ↔ l[i].p.tmod 2 = 0 ∧ ∀ r, r ∈ l.take i → mulS l[i] r = mulS r l[i] := by
  unfold badAt
  rw [List.getElem?_eq_getElem h]
  dsimp only
  rw [Bool.or_eq_false_iff, List.any_eq_false]
  simp
theorem good_iff {w : Nat} (hw : w ≤ 12) {l : List Ps} (hv : ∀ q, q ∈ l → Vl w q) : badS l = false ↔ Good (l.map nf) := by
  have hb : badS l = false ↔ ∀ i (h : i < l.length), l[i].p.tmod 2 = 0 ∧ ∀ r, r ∈ l.take i → mulS l[i] r = mulS r l[i] := by
    unfold badS
    rw [List.any_eq_false]
    constructor
    · intro h i hi
      exact (badAt_ok hi).1 (by simpa using h i (List.mem_range.2 hi))
    · intro h i hi
      have hi := List.mem_range.1 hi
      rw [(badAt_ok hi).2 (h i hi)]; simp
  rw [hb]
  constructor
  · intro h
    refine ⟨fun a ha => ?_, fun a b ha hb => ?_⟩
    · obtain ⟨q, hq, rfl⟩ := List.mem_map.1 ha
      obtain ⟨i, hi, rfl⟩ := List.getElem_of_mem hq
      exact (eok_nf hw (hv _ hq)).2 (h i hi).1
    · obtain ⟨q, hq, rfl⟩ := List.mem_map.1 ha
      obtain ⟨r, hr, rfl⟩ := List.mem_map.1 hb
      obtain ⟨i, hi, rfl⟩ := List.getElem_of_mem hq
      obtain ⟨j, hj, rfl⟩ := List.getElem_of_mem hr
      rcases Nat.lt_trichotomy i j with e | e | e
      · exact ecom_symm ((com_iff hw (hv _ hr) (hv _ hq)).1 ((h j hj).2 _ (List.mem_take_iff_getElem.2 ⟨i, by omega, rfl⟩)))
      · subst e; exact ecom_self _
      · exact (com_iff hw (hv _ hq) (hv _ hr)).1 ((h i hi).2 _ (List.mem_take_iff_getElem.2 ⟨j, by omega, rfl⟩))
  · intro h i hi
    have hm := List.getElem_mem hi
    refine ⟨(eok_nf hw (hv _ hm)).1 (h.ok _ (List.mem_map.2 ⟨_, hm, rfl⟩)), fun r hr => ?_⟩
    have hr2 := List.mem_of_mem_take hr
    exact (com_iff hw (hv _ hm) (hv _ hr2)).2 (h.com _ _ (List.mem_map.2 ⟨_, hm, rfl⟩) (List.mem_map.2 ⟨_, hr2, rfl⟩))
theorem sok_sta {w : Nat} {l : List Ps} (h : SOk w l) : Sta w (l.map nf) :=
  ⟨(good_iff h.hi h.vl).1 h.good, (rank_ind h.hi h.vl).1 h.rank, by rw [List.length_map, h.len], fun a ha => by
    obtain ⟨q, hq, rfl⟩ := List.mem_map.1 ha
    exact vec_in h.hi (h.vl q hq)⟩
theorem sta_sok {w : Nat} (hw : 1 ≤ w ∧ w ≤ 12) {l : List Ps} (hv : ∀ q, q ∈ l → Vl w q) (h : Sta w (l.map nf)) : SOk w l :=
  ⟨hw.1, hw.2, by have := h.len; rwa [List.length_map] at this, hv, (good_iff hw.2 hv).2 h.good, (rank_ind hw.2 hv).2 h.ind⟩
end Go.Tz


/-! Reduced rows: what they are sums of, and what they make. -/
namespace Go.Tz
open Go Go.AL Go.Ma
theorem xr_congrm {v : Nat → Nat} {m m' : Nat → Bool} {n : Nat} (h : ∀ j, j < n → m j = m' j) : xr v m n = xr v m' n := xr_congr (fun _ _ => rfl) h
theorem swp_vec (rf : Nat → Ps) (a f j : Nat) : vec (swapF rf a f j) = swp (fun j => vec (rf j)) a f j := by
  unfold swapF swp
  dsimp only
  split
  · rfl
  · split <;> rfl
/-- The rows of the reference are the sums that it notes. -/
theorem redN_sum {w : Nat} (hw : w ≤ 12) {l : List Ps} (hv : ∀ q, q ∈ l → Vl w q) : ∀ {c : Nat}, c ≤ 2 * w → ∀ j, j < l.length → rfv l c j = xr (rfv l 0) ((redN l c).2.1 j) l.length
  | 0, _, j, hj => (xr_one hj).symm
  | c + 1, hc, j, hj => by
    have ih := redN_sum hw hv (c := c) (by omega)
    obtain ⟨q1, q2⟩ := red_vl hw hv c
    rcases rfv_step hw hv (c := c) (by omega) with ⟨_, h2, _⟩ | ⟨f, f1, f2, _, f4, _, f5⟩
    · unfold rfv at ih ⊢
      rw [h2]; exact ih j hj
    · rw [f5 j hj, f4]
      have ha : (redN l c).2.2 < l.length := by omega
      have hS : ∀ i, i < l.length → swp (rfv l c) (redN l c).2.2 f i = xr (rfv l 0) (swapF (redN l c).2.1 (redN l c).2.2 f i) l.length := by
        intro i hi
        unfold swp swapF
        split
        · exact ih f f2
        · split
          · exact ih _ ha
          · exact ih i hi
      have hb : bitB (swapF (redN l c).1 (redN l c).2.2 f j) c = cb (swp (rfv l c) (redN l c).2.2 f j) c := by
        have : Vl w (swapF (redN l c).1 (redN l c).2.2 f j) := by
          unfold swapF
          split
          · exact q1 f f2
          · split
            · exact q1 _ ha
            · exact q1 j hj
        rw [bitB_cb hw (by omega) this, swp_vec]; rfl
      unfold clr clrB
      by_cases e : j ≠ (redN l c).2.2 ∧ cb (swp (rfv l c) (redN l c).2.2 f j) c = true
      · rw [if_pos e, if_pos ⟨hj, e.1, by rw [hb]; exact e.2⟩, hS j hj, hS _ ha, ← xr_xor]
        exact xr_congrm fun q hq => by rw [if_pos hq]
      · rw [if_neg e, if_neg (fun h => e ⟨h.2.1, by rw [← hb]; exact h.2.2⟩)]
        exact hS j hj
/-- Lists that make the same. -/
def SameG (L M : List E) : Prop := ∀ g, Gen L g ↔ Gen M g
theorem sameG_of {L M : List E} (hL : Good L) (h1 : ∀ a, a ∈ M → Gen L a) (h2 : ∀ a, a ∈ L → Gen M a) : SameG L M := fun _ => ⟨gen_sub (good_of hL h1) h2, gen_sub hL h1⟩
theorem sta_same {w : Nat} (hw : w ≤ 12) {L M : List E} (hL : Sta w L) (hM : M.length = w) (h1 : ∀ a, a ∈ M → Gen L a) (h2 : ∀ a, a ∈ L → Gen M a) : Sta w M := by
  have hlt : ∀ v, inV w v → v < 2 ^ 24 := fun v hv => sp_lt _ (U_lt hw) _ hv
  have hin : ∀ a, a ∈ M → inV w a.2 := fun a ha => by
    have := gen_span (h1 a ha)
    refine sp_sub _ _ (fun b hb => ?_) _ this
    obtain ⟨q, hq, rfl⟩ := List.mem_map.1 hb
    exact hL.inv q hq
  refine ⟨good_of hL.good h1, ?_, hM, hin⟩
  have : rk (M.map (·.2)) = rk (L.map (·.2)) := by
    refine rk_eq (k := 24) ?_ ?_ (sp_ext ?_ ?_)
    · intro a ha
      obtain ⟨q, hq, rfl⟩ := List.mem_map.1 ha; exact hlt _ (hin q hq)
    · intro a ha
      obtain ⟨q, hq, rfl⟩ := List.mem_map.1 ha; exact hlt _ (hL.inv q hq)
    · intro a ha
      obtain ⟨q, hq, rfl⟩ := List.mem_map.1 ha; exact gen_span (h1 q hq)
    · intro a ha
      obtain ⟨q, hq, rfl⟩ := List.mem_map.1 ha; exact gen_span (h2 q hq)
  unfold Ind
  rw [this, hL.ind]; simp [hL.len, hM]
theorem redRows_gen {w : Nat} (hw : w ≤ 12) {l : List Ps} (hv : ∀ q, q ∈ l → Vl w q) (hG : Good (l.map nf)) : ∀ {c : Nat}, c ≤ 2 * w → (∀ j, j < l.length → Gen (l.map nf) (nf ((redN l c).1 j))) ∧ ∀ a, a ∈ l.map nf → Gen ((redRows l c).map nf) a
  | 0, _ => by
    have e : ∀ j (h : j < l.length), (redN l 0).1 j = l[j] := fun j h => by
      show l.getD j Ps.z0 = l[j]
      rw [List.getD_eq_getElem?_getD, List.getElem?_eq_getElem h]; rfl
    refine ⟨fun j hj => ?_, fun a ha => ?_⟩
    · rw [e j hj]; exact gen_mem' hG (List.mem_map.2 ⟨_, List.getElem_mem hj, rfl⟩)
    · obtain ⟨q, hq, rfl⟩ := List.mem_map.1 ha
      obtain ⟨j, hj, rfl⟩ := List.getElem_of_mem hq
      refine gen_mem (fun b hb => ?_) (List.mem_map.2 ⟨(redN l 0).1 j, List.mem_map.2 ⟨j, List.mem_range.2 hj, rfl⟩, by rw [e j hj]⟩)
      obtain ⟨r, _, rfl⟩ := List.mem_map.1 hb
      exact nf_lt r
  | c + 1, hc => by
    obtain ⟨h1, h2⟩ := redRows_gen hw hv hG (c := c) (by omega)
    obtain ⟨q1, q2⟩ := red_vl hw hv c
    have hmem : ∀ (f : Nat → Ps) j, j < l.length → nf (f j) ∈ ((List.range l.length).map f).map nf := fun f j hj => List.mem_map.2 ⟨f j, List.mem_map.2 ⟨j, List.mem_range.2 hj, rfl⟩, rfl⟩
    simp only [redRows, redN, colS]
    cases hf : fndO (redN l c).1 l.length c (redN l c).2.2 with
    | none => exact ⟨h1, h2⟩
    | some f =>
      obtain ⟨f1, f2, f3, f4⟩ := fndO_some hf
      have ha : (redN l c).2.2 < l.length := by omega
      dsimp only
      generalize (redN l c).2.2 = a at f1 ha ⊢
      have sV : ∀ j, j < l.length → Vl w (swapF (redN l c).1 a f j) := fun j hj => by
        unfold swapF
        split
        · exact q1 f f2
        · split
          · exact q1 _ ha
          · exact q1 j hj
      have sG : ∀ j, j < l.length → Gen (l.map nf) (nf (swapF (redN l c).1 a f j)) := fun j hj => by
        unfold swapF
        split
        · exact h1 f f2
        · split
          · exact h1 _ ha
          · exact h1 j hj
      have sB : ∀ j, j < l.length → ∃ i, i < l.length ∧ (redN l c).1 j = swapF (redN l c).1 a f i := fun j hj => by
        by_cases e1 : j = f
        · exact ⟨a, ha, by unfold swapF; rw [if_pos rfl, e1]⟩
        · by_cases e2 : j = a
          · exact ⟨f, f2, by unfold swapF; rw [if_neg (by omega), if_pos rfl, e2]⟩
          · exact ⟨j, hj, by unfold swapF; rw [if_neg e2, if_neg e1]⟩
      generalize swapF (redN l c).1 a f = s at sV sG sB
      have cG : ∀ j, j < l.length → Gen (l.map nf) (nf (clrR s a c l.length j)) := fun j hj => by
        unfold clrR
        split
        · rw [nf_mul hw (sV j hj) (sV a ha)]; exact gen_mul' hG (sG j hj) (sG a ha)
        · exact sG j hj
      have hM : Good (((List.range l.length).map (clrR s a c l.length)).map nf) := good_of hG fun b hb => by
        obtain ⟨r, hr, rfl⟩ := List.mem_map.1 hb
        obtain ⟨j, hj, rfl⟩ := List.mem_map.1 hr
        exact cG j (List.mem_range.1 hj)
      have gA : Gen (((List.range l.length).map (clrR s a c l.length)).map nf) (nf (s a)) := by
        have := gen_mem' hM (hmem (clrR s a c l.length) a ha)
        rwa [clrR_a] at this
      have gS : ∀ j, j < l.length → Gen (((List.range l.length).map (clrR s a c l.length)).map nf) (nf (s j)) := fun j hj => by
        have h := gen_mem' hM (hmem (clrR s a c l.length) j hj)
        unfold clrR at h
        skip
        split at h
        · rw [nf_mul hw (sV j hj) (sV a ha)] at h
          have h3 := gen_mul' hM h gA
          rw [emul_assoc, emul_self (gen_ok hG (sG a ha)), emul_one _ (nf_lt _)] at h3
          exact h3
        · exact h
      refine ⟨cG, fun b hb => ?_⟩
      refine gen_sub hM (fun x hx => ?_) (h2 b hb)
      obtain ⟨r, hr, rfl⟩ := List.mem_map.1 hx
      obtain ⟨j, hj, rfl⟩ := List.mem_map.1 hr
      obtain ⟨i, hi, e⟩ := sB j (List.mem_range.1 hj)
      rw [e]; exact gS i hi
theorem redRows_ok {w : Nat} {l : List Ps} (h : SOk w l) : SOk w (redRows l (2 * w)) ∧ SameG (l.map nf) ((redRows l (2 * w)).map nf) := by
  have hs := sok_sta h
  obtain ⟨h1, h2⟩ := redRows_gen h.hi h.vl hs.good (Nat.le_refl (2 * w))
  have h1' : ∀ a, a ∈ (redRows l (2 * w)).map nf → Gen (l.map nf) a := fun a ha => by
    obtain ⟨r, hr, rfl⟩ := List.mem_map.1 ha
    obtain ⟨j, hj, rfl⟩ := List.mem_map.1 hr
    exact h1 j (List.mem_range.1 hj)
  refine ⟨sta_sok ⟨h.lo, h.hi⟩ (fun q hq => ?_) (sta_same h.hi hs (by rw [List.length_map, redRows_len, h.len]) h1' h2), sameG_of hs.good h1' h2⟩
  obtain ⟨j, hj, rfl⟩ := List.mem_map.1 hq
  exact (red_vl h.hi h.vl _).1 j (List.mem_range.1 hj)
end Go.Tz


/-! What the reference expects of a string. -/
namespace Go.Tz
open Go Go.AL Go.Ma
theorem lead_eq {w : Nat} (hw : w ≤ 12) {q : Ps} (h : Vl w q) {d : Nat} (hd : d < 2 * w) (h1 : cb (vec q) d = true) (h2 : ∀ e, e < d → cb (vec q) e = false) : leadI q = d := by
  have key : ∀ f k, k + f = 2 * w → k ≤ d → leadF q f k = d := by
    intro f
    induction f with
    | zero => intro k e1 e2; omega
    | succ f ih =>
      intro k e1 e2
      simp only [leadF]
      rw [bitB_cb hw (by omega) h]
      by_cases e : k = d
      · subst e; rw [if_pos h1]
      · rw [h2 k (by omega), if_neg (by simp)]; exact ih (k + 1) (by omega) (by omega)
  unfold leadI
  rw [vl_w h, Int.toNat_natCast]
  exact key _ _ (by omega) (by omega)
theorem rows_at (l : List Ps) {c i : Nat} (hi : i < l.length) : (redRows l c).getD i Ps.z0 = (redN l c).1 i := by
  unfold redRows
  simp [List.getD_eq_getElem?_getD, hi]
theorem sb_inv {w : Nat} (hw : w ≤ 12) {l : List Ps} (hv : ∀ q, q ∈ l → Vl w q) {p : Ps} (hp : Vl w p) {pc : Nat → Nat} (h1 : RR l.length (2 * w) (redN l (2 * w)).2.2 (rfv l (2 * w)) pc) (h2 : Piv l.length (rfv l (2 * w)) (fun i => pos (pc i)) fun i => decide (i < (redN l (2 * w)).2.2)) :
    ∀ i, i ≤ l.length → Vl w (sbSt (redRows l (2 * w)) (redN l (2 * w)).2.1 p i).1 ∧ vec (sbSt (redRows l (2 * w)) (redN l (2 * w)).2.1 p i).1 = slv (rfv l (2 * w)) (fun i => pos (pc i)) (fun i => decide (i < (redN l (2 * w)).2.2)) (vec p) i ∧
      vec (sbSt (redRows l (2 * w)) (redN l (2 * w)).2.1 p i).1 = vec p ^^^ xr (rfv l 0) (sbSt (redRows l (2 * w)) (redN l (2 * w)).2.1 p i).2 l.length
  | 0, _ => ⟨hp, rfl, by show vec p = vec p ^^^ xr (rfv l 0) (fun _ => false) l.length; rw [xr_none fun _ _ => rfl, Nat.xor_zero]⟩
  | i + 1, hi => by
    obtain ⟨g1, g2, g3⟩ := sb_inv hw hv hp h1 h2 i (by omega)
    have hqv := (red_vl hw hv (2 * w)).1 i (by omega)
    have hsum := redN_sum hw hv (Nat.le_refl (2 * w)) i (by omega)
    simp only [sbSt, sbStep, rows_at l (show i < l.length by omega), slv]
    have hr : rfv l (2 * w) i = vec ((redN l (2 * w)).1 i) := rfl
    by_cases ha : i < (redN l (2 * w)).2.2
    · have hld : leadI ((redN l (2 * w)).1 i) = pc i := lead_eq hw hqv (h1.lt i ha) (h1.own i ha) (fun e he => h1.lead i e ha he)
      have hb : bitB (sbSt (redRows l (2 * w)) (redN l (2 * w)).2.1 p i).1 (leadI ((redN l (2 * w)).1 i)) = (slv (rfv l (2 * w)) (fun i => pos (pc i)) (fun i => decide (i < (redN l (2 * w)).2.2)) (vec p) i).testBit (pos (pc i)) := by
        rw [hld, bitB_cb hw (h1.lt i ha) g1, g2]; rfl
      by_cases e : (slv (rfv l (2 * w)) (fun i => pos (pc i)) (fun i => decide (i < (redN l (2 * w)).2.2)) (vec p) i).testBit (pos (pc i)) = true
      · rw [if_pos (show 0 ≤ leadI ((redN l (2 * w)).1 i) ∧ bitB (sbSt (redRows l (2 * w)) (redN l (2 * w)).2.1 p i).1 (leadI ((redN l (2 * w)).1 i)) = true from ⟨by rw [hld]; omega, hb.trans e⟩)]
        rw [if_pos (show (decide (i < (redN l (2 * w)).2.2) && (slv (rfv l (2 * w)) (fun i => pos (pc i)) (fun i => decide (i < (redN l (2 * w)).2.2)) (vec p) i).testBit (pos (pc i))) = true by rw [decide_eq_true ha, e]; rfl)]
        refine ⟨mul_vl hw g1 hqv, ?_, ?_⟩
        · rw [vec_mul hw g1 hqv, g2]; rfl
        · rw [vec_mul hw g1 hqv, g3, xr_xor, Nat.xor_assoc, ← hsum]; rfl
      · rw [if_neg (show ¬ (0 ≤ leadI ((redN l (2 * w)).1 i) ∧ bitB (sbSt (redRows l (2 * w)) (redN l (2 * w)).2.1 p i).1 (leadI ((redN l (2 * w)).1 i)) = true) from fun h => e (hb.symm.trans h.2))]
        rw [if_neg (show ¬ (decide (i < (redN l (2 * w)).2.2) && (slv (rfv l (2 * w)) (fun i => pos (pc i)) (fun i => decide (i < (redN l (2 * w)).2.2)) (vec p) i).testBit (pos (pc i))) = true from fun h => e (Bool.and_eq_true_iff.1 h).2)]
        exact ⟨g1, g2, g3⟩
    · have hz : vec ((redN l (2 * w)).1 i) = 0 := h2.zero i (by omega) (by simpa using ha)
      have hn : ¬ 0 ≤ leadI ((redN l (2 * w)).1 i) := fun h => (lead_nz hw hqv).1 h hz
      rw [if_neg (show ¬ (0 ≤ leadI ((redN l (2 * w)).1 i) ∧ bitB (sbSt (redRows l (2 * w)) (redN l (2 * w)).2.1 p i).1 (leadI ((redN l (2 * w)).1 i)) = true) from fun h => hn h.1)]
      rw [if_neg (show ¬ (decide (i < (redN l (2 * w)).2.2) && (slv (rfv l (2 * w)) (fun i => pos (pc i)) (fun i => decide (i < (redN l (2 * w)).2.2)) (vec p) i).testBit (pos (pc i))) = true from fun h => ha (by simpa using (Bool.and_eq_true_iff.1 h).1))]
      exact ⟨g1, g2, g3⟩
theorem vec_z {w : Nat} {q : Ps} (h : Vl w q) : (q.x ≠ 0 ∨ q.z ≠ 0) ↔ vec q ≠ 0 := by
  obtain ⟨X, Z, P, rfl, h1, h2, h3⟩ := h
  unfold vec
  rw [nf_mk]
  show ((X : Int) ≠ 0 ∨ (Z : Int) ≠ 0) ↔ X + 4096 * Z ≠ 0
  omega
theorem vl_one (w : Nat) : Vl w ⟨w, 0, 0, 0⟩ := ⟨0, 0, 0, rfl, Nat.two_pow_pos w, Nat.two_pow_pos w, by decide⟩
theorem nf_one (w : Nat) : nf ⟨w, 0, 0, 0⟩ = e1 := by
  show nf (mk w 0 0 0) = e1
  rw [nf_mk]; decide
theorem span_l {l : List Ps} {v : Nat} : spB (revl (rfv l 0) l.length) v = spB ((l.map nf).map (·.2)) v := by
  rw [revl_rfv0]
  have e : l.map vec = (l.map nf).map (·.2) := by rw [List.map_map]; rfl
  rw [e]
  exact sp_ext (fun a ha => sp_mem _ _ (List.mem_reverse.1 ha)) (fun a ha => sp_mem _ _ (List.mem_reverse.2 ha)) v
theorem rfv_0 (l : List Ps) {i : Nat} (hi : i < l.length) : rfv l 0 i = vec l[i] := by
  unfold rfv
  simp only [redN, List.getD_eq_getElem?_getD, List.getElem?_eq_getElem hi, Option.getD_some]
/-- The product of the strings that are taken. -/
theorem prod_tk {w : Nat} (hw : w ≤ 12) {l : List Ps} (hv : ∀ q, q ∈ l → Vl w q) (hG : Good (l.map nf)) (f : Nat → Bool) : ∀ i, i ≤ l.length → Vl w (prodS w ((tkL f i).map fun n => l.getD n Ps.z0)) ∧ Gen (l.map nf) (nf (prodS w ((tkL f i).map fun n => l.getD n Ps.z0))) ∧ vec (prodS w ((tkL f i).map fun n => l.getD n Ps.z0)) = xr (rfv l 0) f i
  | 0, _ => ⟨vl_one w, by show Gen _ (nf ⟨w, 0, 0, 0⟩); rw [nf_one]; exact .one, rfl⟩
  | i + 1, hi => by
    obtain ⟨g1, g2, g3⟩ := prod_tk hw hv hG f i (by omega)
    rw [tkL_snoc]
    simp only [xr]
    by_cases e : f i = true
    · rw [if_pos e, if_pos e, List.map_append, List.map_singleton, prodS_snoc]
      have hq : l.getD i Ps.z0 = l[i] := by rw [List.getD_eq_getElem?_getD, List.getElem?_eq_getElem (show i < l.length by omega)]; rfl
      rw [hq]
      have hm := List.getElem_mem (show i < l.length by omega)
      refine ⟨mul_vl hw g1 (hv _ hm), ?_, ?_⟩
      · rw [nf_mul hw g1 (hv _ hm)]; exact gen_mul' hG g2 (gen_mem' hG (List.mem_map.2 ⟨_, hm, rfl⟩))
      · rw [vec_mul hw g1 (hv _ hm), g3, rfv_0 l (by omega)]
    · rw [if_neg e, if_neg e]; exact ⟨g1, g2, g3⟩
theorem p_eq {w : Nat} (hw : w ≤ 12) {q r : Ps} (hq : Vl w q) (hr : Vl w r) (hv : vec q = vec r) : q.p = r.p ↔ nf q = nf r := by
  obtain ⟨X, Z, P, rfl, h1, h2, h3⟩ := hq
  obtain ⟨X', Z', P', rfl, h4, h5, h6⟩ := hr
  unfold vec at hv
  rw [nf_mk, nf_mk] at hv ⊢
  dsimp only at hv
  have hp : (2 : Nat) ^ w ≤ 2 ^ 12 := Nat.pow_le_pow_right (by decide) hw
  have e1 : X = X' := by omega
  have e2 : Z = Z' := by omega
  subst e1 e2
  show (P : Int) = (P' : Int) ↔ _
  constructor
  · intro h
    have : P = P' := by omega
    rw [this]
  · intro h
    have := congrArg Prod.fst h
    dsimp only at this
    omega
structure ExpOk (L : List E) (g : E) (e : Int) : Prop where
  pos : Gen L g → e = 1
  neg : Gen L (eneg g) → e = -1
  zero : ¬ Gen L g → ¬ Gen L (eneg g) → e = 0
theorem expOk_uniq {L M : List E} (h : SameG L M) {g : E} {e e' : Int} (h1 : ExpOk L g e) (h2 : ExpOk M g e') : e = e' := by
  by_cases a : Gen L g
  · rw [h1.pos a, h2.pos ((h g).1 a)]
  · by_cases b : Gen L (eneg g)
    · rw [h1.neg b, h2.neg ((h _).1 b)]
    · rw [h1.zero a b, h2.zero (fun c => a ((h g).2 c)) (fun c => b ((h _).2 c))]
theorem expR_ok {w : Nat} {l : List Ps} (h : SOk w l) {p : Ps} (hp : Vl w p) (hk : eok (nf p)) : ExpOk (l.map nf) (nf p) (expR w l p) := by
  have hst := sok_sta h
  obtain ⟨pc, r1, r2⟩ := rfv_piv h.hi h.vl
  obtain ⟨g1, g2, g3⟩ := sb_inv h.hi h.vl hp r1 r2 l.length (Nat.le_refl _)
  have hz := slv_zero r2 (vec p)
  rw [← g2, rfv_span h.hi h.vl _ (Nat.le_refl _), span_l] at hz
  have hx := vec_z g1
  unfold expR phR tkP
  have hsv : sbL w l p = sbSt (redRows l (2 * w)) (redN l (2 * w)).2.1 p l.length := rfl
  rw [hsv]
  generalize sbSt (redRows l (2 * w)) (redN l (2 * w)).2.1 p l.length = s at g1 g2 g3 hz hx ⊢
  by_cases e : vec s.1 = 0
  · rw [if_neg (fun q => hx.1 q e)]
    rw [e] at g3
    have hxr : xr (rfv l 0) s.2 l.length = vec p := by
      have := congrArg (· ^^^ xr (rfv l 0) s.2 l.length) g3
      simpa only [xor_cancel, Nat.zero_xor] using this
    obtain ⟨k1, k2, k3⟩ := prod_tk h.hi h.vl hst.good s.2 l.length (Nat.le_refl _)
    rw [hxr] at k3
    generalize prodS w ((tkL s.2 l.length).map fun n => l.getD n Ps.z0) = g at k1 k2 k3 ⊢
    have hpe := p_eq h.hi hp k1 k3.symm
    have hph : (isub .i64 (iadd .i64 4 p.p) g.p).tmod 4 = 0 ↔ p.p = g.p := by
      obtain ⟨X, Z, P, rfl, _, _, a3⟩ := hp
      obtain ⟨X', Z', P', rfl, _, _, b3⟩ := k1
      show (isub .i64 (iadd .i64 4 (P : Int)) (P' : Int)).tmod 4 = 0 ↔ (P : Int) = P'
      have e1 : iadd .i64 4 (P : Int) = ((4 + P : Nat) : Int) := iadd_nat (a := 4) (by omega)
      rw [e1, isub_nat (by omega) (by omega)]
      have e2 : (((4 + P - P' : Nat) : Int)).tmod 4 = (((4 + P - P') % 4 : Nat) : Int) := rfl
      rw [e2]
      omega
    refine ⟨fun q => ?_, fun q => ?_, fun a b => ?_⟩
    · rw [if_pos (hph.2 (hpe.2 (gen_uniq hst.good hst.ind q k2 k3.symm)))]
    · rw [if_neg fun c => ?_]
      have e1 := hpe.1 (hph.1 c)
      have e2 := gen_uniq hst.good hst.ind q k2 k3.symm
      rw [← e1] at e2
      exact eneg_ne hk.1 e2
    · exfalso
      rcases e_or_neg hk (gen_ok hst.good k2) k3.symm with q | q
      · rw [q] at a; exact a k2
      · rw [q, eneg_neg (gen_ok hst.good k2).1] at b; exact b k2
  · rw [if_pos (hx.2 e)]
    refine ⟨fun q => absurd (hz.2 (gen_span q)) e, fun q => absurd (hz.2 (gen_span (g := eneg (nf p)) q)) e, fun _ _ => rfl⟩
end Go.Tz


/-! What the program expects of a string. -/
namespace Go.Tz
open Go Go.AL Go.Ma
theorem redF_sum (l : List Ps) : ∀ m, m ≤ l.length → ∀ j, j < l.length → (redW (rowN l) m j).1 = xr (rfv l 0) (fun q => (redW (rowN l) m j).2.testBit q) l.length
  | 0, _, j, hj => by
    have h0 : redW (rowN l) 0 j = (vec l[j], 2 ^ j) := by
      show (rowN l).getD j (0, 0) = _
      rw [List.getD_eq_getElem?_getD, List.getElem?_eq_getElem (by rw [rowN_len]; exact hj)]
      simp [rowN, vec]
    rw [h0]
    dsimp only
    rw [xr_congrm (m' := fun q => q == j) fun q _ => by rw [Nat.testBit_two_pow, Bool.eq_iff_iff]; simp; exact eq_comm, xr_one hj, rfv_0 l hj]
  | m + 1, hm, j, hj => by
    have ih := redF_sum l m (by omega)
    simp only [redW]
    by_cases e : (redW (rowN l) m m).1 ≠ 0
    · rw [if_pos e]
      unfold clrW
      by_cases c : j < (rowN l).length ∧ j ≠ m ∧ (redW (rowN l) m j).1.testBit (lowN (redW (rowN l) m m).1) = true
      · rw [if_pos c]
        dsimp only
        rw [ih j hj, ih m (by omega), ← xr_xor]
        exact xr_congrm fun q _ => by rw [Nat.testBit_xor]
      · rw [if_neg c]; exact ih j hj
    · rw [if_neg e]; exact ih j hj
theorem oth_bit (r : Rn) (j : Nat) : ∀ l : List Rn, (oth r l).testBit j = l.any fun x => decide (x ≠ r) && x.1.testBit j := by
  have key : ∀ (l : List Rn) (o : Nat), (l.foldl (fun o x => if x = r then o else o ||| x.1) o).testBit j = (o.testBit j || l.any fun x => decide (x ≠ r) && x.1.testBit j) := by
    intro l
    induction l with
    | nil => intro o; simp
    | cons x l ih =>
      intro o
      rw [List.foldl_cons, ih, List.any_cons]
      by_cases e : x = r
      · rw [if_pos e]; simp [e]
      · rw [if_neg e, Nat.testBit_or]; simp [e, Bool.or_assoc]
  intro l
  unfold oth
  rw [key, Nat.zero_testBit, Bool.false_or]
theorem lf_all {l : List Ps} (h : gnW (redF l) l.length = []) : lfW (redF l) l.length = (List.range l.length).map (redF l) := by
  unfold gnW at h
  unfold lfW
  rw [List.filter_eq_self]
  intro r hr
  rw [List.filter_eq_nil_iff] at h
  have := h r hr
  simpa using this
theorem own_piv {w : Nat} {l : List Ps} (h : SOk w l) : Piv l.length (rwv l l.length) (fun i => ownN (lfW (redF l) l.length) (redF l i)) fun _ => true := by
  have hg : gnW (redF l) l.length = [] := List.length_eq_zero_iff.1 ((ind_iff h.hi h.vl (by have := h.len; have := h.hi; omega)).2 h.rank)
  have hn : l.length ≤ 24 := by have := h.len; have := h.hi; omega
  obtain ⟨p, hp⟩ := rwv_Piv h.hi h.vl hn
  have hall := lf_all hg
  have hlt := redW_lt (rowN_lt h.hi h.vl hn) l.length
  have hnz : ∀ i, i < l.length → rwv l l.length i ≠ 0 := fun i hi e => by
    unfold gnW at hg
    rw [List.filter_eq_nil_iff] at hg
    have := hg (redF l i) (List.mem_map.2 ⟨i, List.mem_range.2 hi, rfl⟩)
    simp at this
    exact this e
  have hbit : ∀ i, i < l.length → (andn (redF l i).1 (oth (redF l i) (lfW (redF l) l.length))).testBit (ownN (lfW (redF l) l.length) (redF l i)) = true := by
    intro i hi
    have h0 : andn (redF l i).1 (oth (redF l i) (lfW (redF l) l.length)) ≠ 0 := fun e => by
      have h1 : (andn (redF l i).1 (oth (redF l i) (lfW (redF l) l.length))).testBit (p i) = true := by
        rw [andn_bit, oth_bit]
        have a1 : (redF l i).1.testBit (p i) = true := hp.own i hi (by simpa using hnz i hi)
        rw [a1, Bool.true_and, Bool.not_eq_true', List.any_eq_false]
        intro x hx
        rw [hall] at hx
        obtain ⟨j, hj, rfl⟩ := List.mem_map.1 hx
        have hj := List.mem_range.1 hj
        by_cases q : j = i
        · subst q; simp
        · have := hp.other j i hj hi q (by simpa using hnz i hi)
          have t : (redF l j).1.testBit (p i) = false := this
          rw [t]; simp
      rw [e, Nat.zero_testBit] at h1; cases h1
    unfold ownN tzN
    rw [if_neg h0]
    exact (low_spec h0 (andn_lt (hlt i).1)).2.1
  refine ⟨fun i hi _ => ?_, fun i j hi hj hij _ => ?_, fun i _ h => by cases h⟩
  · have := hbit i hi
    rw [andn_bit] at this
    exact (Bool.and_eq_true_iff.1 this).1
  · have := hbit j hj
    rw [andn_bit] at this
    have h2 := (Bool.and_eq_true_iff.1 this).2
    rw [Bool.not_eq_true', oth_bit, List.any_eq_false] at h2
    have h3 := h2 (redF l i) (by rw [hall]; exact List.mem_map.2 ⟨i, List.mem_range.2 hi, rfl⟩)
    have hne : redF l i ≠ redF l j := fun e => by
      have a1 : (redF l j).1.testBit (p j) = true := hp.own j hj (by simpa using hnz j hj)
      have a2 : (redF l i).1.testBit (p j) = false := hp.other i j hi hj hij (by simpa using hnz j hj)
      rw [e, a1] at a2; cases a2
    have : (redF l i).1.testBit (ownN (lfW (redF l) l.length) (redF l j)) = false := by simpa [hne] using h3
    exact this
theorem fnd_inv {w : Nat} {l : List Ps} (h : SOk w l) (v : Nat) : ∀ i, i ≤ l.length → (fndS (lfW (redF l) l.length) v i).1 = slv (rwv l l.length) (fun i => ownN (lfW (redF l) l.length) (redF l i)) (fun _ => true) v i ∧
    (fndS (lfW (redF l) l.length) v i).1 = v ^^^ xr (rfv l 0) (fun q => (fndS (lfW (redF l) l.length) v i).2.testBit q) l.length
  | 0, _ => ⟨rfl, by show v = v ^^^ xr (rfv l 0) (fun q => (0 : Nat).testBit q) l.length; rw [xr_none fun _ _ => Nat.zero_testBit _, Nat.xor_zero]⟩
  | i + 1, hi => by
    have hg : gnW (redF l) l.length = [] := List.length_eq_zero_iff.1 ((ind_iff h.hi h.vl (by have := h.len; have := h.hi; omega)).2 h.rank)
    have hall := lf_all hg
    obtain ⟨g1, g2⟩ := fnd_inv h v i (by omega)
    have hs := redF_sum l l.length (Nat.le_refl _) i (by omega)
    have hil : i < (lfW (redF l) l.length).length := by rw [hall]; simp; omega
    have hgi : (lfW (redF l) l.length)[i] = redF l i := by simp [hall]
    rw [fnd_snoc hil, hgi]
    simp only [slv, fstp, Bool.true_and]
    rw [g1] at g2 ⊢
    by_cases e : (slv (rwv l l.length) (fun i => ownN (lfW (redF l) l.length) (redF l i)) (fun _ => true) v i).testBit (ownN (lfW (redF l) l.length) (redF l i)) = true
    · rw [if_pos e, if_pos e]
      refine ⟨rfl, ?_⟩
      dsimp only
      rw [xr_congrm (m' := fun q => (fndS (lfW (redF l) l.length) v i).2.testBit q != (redF l i).2.testBit q) fun q _ => by rw [Nat.testBit_xor], xr_xor, ← Nat.xor_assoc, ← g2]
      congr 1
    · rw [if_neg e, if_neg e]
      exact ⟨g1, by rw [g1]; exact g2⟩
theorem all_tk {w : Nat} (hw : w ≤ 12) {l : List Ps} (hv : ∀ q, q ∈ l → Vl w q) (hG : Good (l.map nf)) (m : Nat) : ∀ i, i ≤ l.length → Vl w (allS w l m i) ∧ Gen (l.map nf) (nf (allS w l m i)) ∧ vec (allS w l m i) = xr (rfv l 0) (fun q => m.testBit q) i
  | 0, _ => ⟨vl_one w, by show Gen _ (nf ⟨w, 0, 0, 0⟩); rw [nf_one]; exact .one, rfl⟩
  | i + 1, hi => by
    obtain ⟨g1, g2, g3⟩ := all_tk hw hv hG m i (by omega)
    simp only [xr, allS]
    by_cases e : m.testBit i = true
    · rw [if_pos e, if_pos e]
      have hq : l.getD i Ps.z0 = l[i] := by rw [List.getD_eq_getElem?_getD, List.getElem?_eq_getElem (show i < l.length by omega)]; rfl
      have hm := List.getElem_mem (show i < l.length by omega)
      rw [hq, tim_mul hw g1 (hv _ hm)]
      refine ⟨mul_vl hw g1 (hv _ hm), ?_, ?_⟩
      · rw [nf_mul hw g1 (hv _ hm)]; exact gen_mul' hG g2 (gen_mem' hG (List.mem_map.2 ⟨_, hm, rfl⟩))
      · rw [vec_mul hw g1 (hv _ hm), g3, rfv_0 l (by omega)]
    · rw [if_neg e, if_neg e]; exact ⟨g1, g2, g3⟩
theorem expP_ok {w : Nat} {l : List Ps} (h : SOk w l) {p : Ps} (hp : Vl w p) (hk : eok (nf p)) : ExpOk (l.map nf) (nf p) (expP l p) := by
  have hst := sok_sta h
  have hn : l.length ≤ 24 := by have := h.len; have := h.hi; omega
  have hg : gnW (redF l) l.length = [] := List.length_eq_zero_iff.1 ((ind_iff h.hi h.vl hn).2 h.rank)
  have hll : (lfW (redF l) l.length).length = l.length := by rw [lf_all hg]; simp
  obtain ⟨g2, g3⟩ := fnd_inv h (nf p).2 l.length (Nat.le_refl _)
  have hz := slv_zero (own_piv h) (nf p).2
  rw [← g2, rwv_span h.hi h.vl hn _ (Nat.le_refl _), span_l] at hz
  unfold expP
  rw [hll, vl_w hp]
  generalize fndS (lfW (redF l) l.length) (nf p).2 l.length = s at g2 g3 hz ⊢
  by_cases e : s.1 = 0
  · rw [if_pos e]
    rw [e] at g3
    have hxr : xr (rfv l 0) (fun q => s.2.testBit q) l.length = (nf p).2 := by
      have := congrArg (· ^^^ xr (rfv l 0) (fun q => s.2.testBit q) l.length) g3
      simpa only [xor_cancel, Nat.zero_xor] using this
    obtain ⟨k1, k2, k3⟩ := all_tk h.hi h.vl hst.good s.2 l.length (Nat.le_refl _)
    have hxr : xr (rfv l 0) (fun q => s.2.testBit q) l.length = vec p := hxr
    rw [hxr] at k3
    generalize allS w l s.2 l.length = g at k1 k2 k3 ⊢
    have hpe := p_eq h.hi hp k1 k3.symm
    have hkp := (eok_nf h.hi hp).1 hk
    have hkg := (eok_nf h.hi k1).1 (gen_ok hst.good k2)
    have hph : (p.p = g.p → isub .i64 1 ((iadd .i64 (isub .i64 p.p g.p) 4).tmod 4) = 1) ∧ (p.p ≠ g.p → isub .i64 1 ((iadd .i64 (isub .i64 p.p g.p) 4).tmod 4) = -1) := by
      obtain ⟨X, Z, P, rfl, _, _, a3⟩ := hp
      obtain ⟨X', Z', P', rfl, _, _, b3⟩ := k1
      have c1 : P = 0 ∨ P = 1 ∨ P = 2 ∨ P = 3 := by omega
      have c2 : P' = 0 ∨ P' = 1 ∨ P' = 2 ∨ P' = 3 := by omega
      have d1 : ((P : Int)).tmod 2 = 0 := hkp
      have d2 : ((P' : Int)).tmod 2 = 0 := hkg
      show ((P : Int) = P' → isub .i64 1 ((iadd .i64 (isub .i64 (P : Int) (P' : Int)) 4).tmod 4) = 1) ∧ ((P : Int) ≠ P' → isub .i64 1 ((iadd .i64 (isub .i64 (P : Int) (P' : Int)) 4).tmod 4) = -1)
      clear hpe k3 k2 hxr g3
      rcases c1 with rfl | rfl | rfl | rfl <;> rcases c2 with rfl | rfl | rfl | rfl <;> revert d1 d2 <;> decide
    refine ⟨fun q => hph.1 (hpe.2 (gen_uniq hst.good hst.ind q k2 k3.symm)), fun q => hph.2 fun c => ?_, fun a b => ?_⟩
    · have e1 := hpe.1 c
      have e2 := gen_uniq hst.good hst.ind q k2 k3.symm
      rw [← e1] at e2
      exact eneg_ne hk.1 e2
    · exfalso
      rcases e_or_neg hk (gen_ok hst.good k2) k3.symm with q | q
      · rw [q] at a; exact a k2
      · rw [q, eneg_neg (gen_ok hst.good k2).1] at b; exact b k2
  · rw [if_neg e]
    exact ⟨fun q => absurd (hz.2 (gen_span q)) e, fun q => absurd (hz.2 (gen_span (g := eneg (nf p)) q)) e, fun _ _ => rfl⟩
end Go.Tz


/-! The overlap, the program's and the reference's. -/
namespace Go.Tz
open Go Go.AL Go.Ma
open Classical in
theorem ovl_cons (L : List E) (p : E) (P : List E) (n : Int) : ovlE L (p :: P) n = if Gen L p then ovlE L P n else if Gen L (eneg p) then -1 else ovlE (proj p L) P (n + 1) := rfl
open Classical in
theorem ov_run {w : Nat} (hw : w ≤ 12) (P L : List E) (S : Nat → List E × Nat) (ex : Nat → Int) (hL : Sta w L) (hP : ∀ p, p ∈ P → inV w p.2 ∧ eok p) (h0 : S 0 = (L, 0))
    (he : ∀ k (h : k < P.length), Sta w (S k).1 → ExpOk (S k).1 P[k] (ex k)) (h1 : ∀ k (_ : k < P.length), ex k = 1 → S (k + 1) = S k)
    (h2 : ∀ k (h : k < P.length), Sta w (S k).1 → ex k = 0 → (∃ q, q ∈ (S k).1 ∧ ¬ ecom q P[k]) → S (k + 1) = (proj P[k] (S k).1, (S k).2 + 1)) :
    (∀ k, k ≤ P.length → (∀ j, j < k → ex j ≠ -1) → Sta w (S k).1 ∧ ovlE L P 0 = ovlE (S k).1 (P.drop k) ((S k).2 : Nat)) ∧ ovlE L P 0 = if (List.range P.length).any (fun k => decide (ex k = -1)) then (-1 : Int) else ((S P.length).2 : Nat) := by
  have key : ∀ k, k ≤ P.length → (∀ j, j < k → ex j ≠ -1) → Sta w (S k).1 ∧ ovlE L P 0 = ovlE (S k).1 (P.drop k) ((S k).2 : Nat) := by
    intro k
    induction k with
    | zero => intro _ _; rw [h0]; exact ⟨hL, rfl⟩
    | succ k ih =>
      intro hk hj
      obtain ⟨a, b⟩ := ih (by omega) fun j h => hj j (by omega)
      have hx := he k hk a
      have hp := hP P[k] (List.getElem_mem hk)
      rw [List.drop_eq_getElem_cons hk] at b
      rw [ovl_cons] at b
      by_cases c1 : Gen (S k).1 P[k]
      · rw [if_pos c1] at b
        rw [h1 k hk (hx.pos c1)]
        exact ⟨a, b⟩
      · rw [if_neg c1] at b
        by_cases c2 : Gen (S k).1 (eneg P[k])
        · exact absurd (hx.neg c2) (hj k (by omega))
        · rw [if_neg c2] at b
          rw [h2 k hk a (hx.zero c1 c2) (sta_anti hw a hp.1 hp.2 c1 c2)]
          refine ⟨proj_sta hw a hp.1 hp.2 c1 c2, ?_⟩
          rw [b]; rfl
  refine ⟨key, ?_⟩
  by_cases hn : (List.range P.length).any (fun k => decide (ex k = -1)) = true
  · rw [if_pos hn]
    obtain ⟨k, hk, he1⟩ := List.any_eq_true.1 hn
    have hk := List.mem_range.1 hk
    have he1 : ex k = -1 := by simpa using he1
    -- the first of them
    have hex : ∃ k, k < P.length ∧ ex k = -1 ∧ ∀ j, j < k → ex j ≠ -1 := by
      have : ∀ m, (∃ k, k < m ∧ k < P.length ∧ ex k = -1) → ∃ k, k < P.length ∧ ex k = -1 ∧ ∀ j, j < k → ex j ≠ -1 := by
        intro m
        induction m with
        | zero => rintro ⟨k, h, _⟩; omega
        | succ m ih =>
          rintro ⟨k, h, h2, h3⟩
          by_cases q : ∃ k, k < m ∧ k < P.length ∧ ex k = -1
          · exact ih q
          · refine ⟨k, h2, h3, fun j hj e => q ⟨j, by omega, by omega, e⟩⟩
      exact this (k + 1) ⟨k, by omega, hk, he1⟩
    obtain ⟨k, hk, he1, hf⟩ := hex
    obtain ⟨a, b⟩ := key k (by omega) hf
    have hx := he k hk a
    rw [List.drop_eq_getElem_cons hk] at b
    rw [ovl_cons] at b
    by_cases c1 : Gen (S k).1 P[k]
    · have := hx.pos c1; omega
    · by_cases c2 : Gen (S k).1 (eneg P[k])
      · rw [if_neg c1, if_pos c2] at b; exact b
      · have := hx.zero c1 c2; omega
  · rw [if_neg hn]
    obtain ⟨a, b⟩ := key P.length (Nat.le_refl _) fun j hj e => hn (List.any_eq_true.2 ⟨j, List.mem_range.2 hj, by simpa using e⟩)
    rw [b, List.drop_length]; rfl
theorem comV_ecom {q r : Ps} : comV q r = true ↔ ecom (nf q) (nf r) := by
  unfold comV
  rw [cm_ecom]
  cases cm (nf q).2 (nf r).2 <;> simp
/-! the reference -/
theorem prjL_vl {w : Nat} (hw : w ≤ 12) {p : Ps} (hp : Vl w p) : ∀ {l : List Ps}, (∀ q, q ∈ l → Vl w q) → ∀ q, q ∈ prjL p l → Vl w q
  | [], _, q, hq => by cases hq
  | a :: l, hv, q, hq => by
    unfold prjL at hq
    split at hq
    · rcases List.mem_cons.1 hq with e | e
      · subst e; exact hv _ (by simp)
      · exact prjL_vl hw hp (fun q h => hv q (List.mem_cons_of_mem _ h)) q e
    · rcases List.mem_cons.1 hq with e | e
      · subst e; exact hp
      · obtain ⟨r, hr, rfl⟩ := List.mem_map.1 e
        have hr := hv r (List.mem_cons_of_mem _ hr)
        split
        · exact hr
        · exact mul_vl hw (hv a (by simp)) hr
theorem prjL_nf {w : Nat} (hw : w ≤ 12) {p : Ps} : ∀ {l : List Ps}, (∀ q, q ∈ l → Vl w q) → Good (l.map nf) → (prjL p l).map nf = proj (nf p) (l.map nf)
  | [], _, _ => rfl
  | a :: l, hv, hG => by
    have ih := prjL_nf hw (p := p) (l := l) (fun q h => hv q (List.mem_cons_of_mem _ h)) (good_tl hG)
    simp only [List.map_cons, prjL, proj]
    by_cases e : comV a p = true
    · rw [if_pos e, if_pos (comV_ecom.1 e), List.map_cons, ih]
    · rw [if_neg e, if_neg (fun h => e (comV_ecom.2 h)), List.map_cons, projR, List.map_map, List.map_map]
      congr 1
      refine List.map_congr_left fun r hr => ?_
      show nf (if comV r p = true then r else mulS a r) = if ecom (nf r) (nf p) then nf r else emul (nf r) (nf a)
      by_cases c : comV r p = true
      · rw [if_pos c, if_pos (comV_ecom.1 c)]
      · rw [if_neg c, if_neg (fun h => c (comV_ecom.2 h)), nf_mul hw (hv a (by simp)) (hv r (List.mem_cons_of_mem _ hr))]
        exact emul_comm (hG.com _ _ (by simp) (by simp; right; exact ⟨r, hr, rfl⟩))
theorem orSt_vl {w : Nat} (hw : w ≤ 12) {l' P : List Ps} (hv : ∀ q, q ∈ l' → Vl w q) (hP : ∀ q, q ∈ P → Vl w q) : ∀ k, k ≤ P.length → ∀ q, q ∈ (orSt w l' P k).1 → Vl w q
  | 0, _, q, hq => hv q hq
  | k + 1, hk, q, hq => by
    have ih := orSt_vl hw hv hP k (by omega)
    simp only [orSt] at hq
    have hg : P.getD k Ps.z0 = P[k] := by rw [List.getD_eq_getElem?_getD, List.getElem?_eq_getElem hk]; rfl
    rw [hg] at hq
    split at hq
    · exact ih q hq
    · exact prjL_vl hw (hP _ (List.getElem_mem hk)) ih q hq
theorem ovR_run {w : Nat} {l l' : List Ps} (h : SOk w l) (h' : SOk w l') : (∀ k, k ≤ l.length → (∀ j, j < k → orEx w l' l j ≠ -1) → SOk w (orSt w l' l k).1) ∧ ovR w l' l = ovlE (l'.map nf) (l.map nf) 0 := by
  have hs := sok_sta h
  have hs' := sok_sta h'
  have hvl := orSt_vl h.hi h'.vl h.vl
  have hsok : ∀ k, k ≤ l.length → Sta w ((orSt w l' l k).1.map nf) → SOk w (orSt w l' l k).1 := fun k hk hS => sta_sok ⟨h.lo, h.hi⟩ (hvl k hk) hS
  have hgd : ∀ k (_ : k < l.length), l.getD k Ps.z0 = l[k] := fun k hk => by rw [List.getD_eq_getElem?_getD, List.getElem?_eq_getElem hk]; rfl
  have hlen : (l.map nf).length = l.length := List.length_map _
  obtain ⟨r1, r2⟩ := ov_run h.hi (l.map nf) (l'.map nf) (fun k => ((orSt w l' l k).1.map nf, (orSt w l' l k).2)) (orEx w l' l) hs'
    (fun p hp => ⟨hs.inv p hp, hs.good.ok p hp⟩) rfl
    (fun k hk hS => by
      have hk' : k < l.length := by omega
      have hv := h.vl l[k] (List.getElem_mem hk')
      rw [List.getElem_map]
      unfold orEx
      rw [hgd k hk']
      exact expR_ok (hsok k (by omega) hS) hv (hs.good.ok _ (List.mem_map.2 ⟨_, List.getElem_mem hk', rfl⟩)))
    (fun k hk e => by
      unfold orEx at e
      simp only [orSt]
      rw [if_pos e])
    (fun k hk hS e hx => by
      have hk' : k < l.length := by omega
      unfold orEx at e
      simp only [orSt]
      rw [if_neg (by rw [e]; decide), List.getElem_map, hgd k hk']
      dsimp only
      rw [prjL_nf h.hi (hvl k (by omega)) hS.good])
  rw [hlen] at r1 r2
  exact ⟨fun k hk hj => hsok k hk (r1 k hk hj).1, r2.symm⟩
end Go.Tz


/-! The overlap, the program's. -/
namespace Go.Tz
open Go Go.AL Go.Ma
theorem proj_get {p : E} : ∀ (L : List E) (a : Nat) (ha : a < L.length), (∀ j (_ : j < a), ecom (L[j]'(by omega)) p) → ¬ ecom L[a] p → ∀ j, (proj p L)[j]? = L[j]?.map fun q => if j < a then q else if j = a then p else if ecom q p then q else emul q L[a]
  | [], a, ha, _, _, _ => by simp at ha
  | b :: L, 0, ha, h1, h2, j => by
    have h2 : ¬ ecom b p := h2
    simp only [proj, if_neg h2]
    cases j with
    | zero => simp
    | succ j =>
      simp only [List.getElem?_cons_succ, projR, List.getElem?_map]
      simp
  | b :: L, a + 1, ha, h1, h2, j => by
    have h0 : ecom b p := h1 0 (by omega)
    simp only [proj, if_pos h0]
    cases j with
    | zero => simp
    | succ j =>
      have ih := proj_get L a (by simpa using ha) (fun j hj => h1 (j + 1) (by omega)) h2 j
      simp only [List.getElem?_cons_succ, ih]
      simp
theorem ant_spec {p : Ps} {rf : Nat → Ps} {N a0 : Nat} {R : List Nat} (h : antL p rf N = a0 :: R) : a0 < N ∧ comV p (rf a0) = false ∧ (∀ j, j < a0 → comV p (rf j) = true) ∧ ∀ j, j < N → a0 < j → (j ∈ R ↔ comV p (rf j) = false) ∧ (∀ j, j ∈ R → a0 < j) := by
  have hm : ∀ j, j ∈ a0 :: R ↔ j < N ∧ comV p (rf j) = false := fun j => by
    rw [← h]; unfold antL; rw [List.mem_filter, List.mem_range]; simp
  have hs : (a0 :: R).Pairwise (· < ·) := by
    rw [← h]; exact List.Pairwise.filter _ List.pairwise_lt_range
  have hlt := (List.pairwise_cons.1 hs).1
  obtain ⟨q1, q2⟩ := (hm a0).1 (by simp)
  refine ⟨q1, q2, fun j hj => ?_, fun j hj hlj => ⟨?_, hlt⟩⟩
  · cases hc : comV p (rf j) with
    | true => rfl
    | false =>
      rcases List.mem_cons.1 ((hm j).2 ⟨by omega, hc⟩) with e | e
      · omega
      · have := hlt j e; omega
  · constructor
    · intro hR; exact ((hm j).1 (List.mem_cons_of_mem _ hR)).2
    · intro hc
      rcases List.mem_cons.1 ((hm j).2 ⟨hj, hc⟩) with e | e
      · omega
      · exact e
theorem comV_false {q r : Ps} : comV q r = false ↔ ¬ ecom (nf q) (nf r) := by rw [← comV_ecom]; simp
theorem prjF_nf {w : Nat} (hw : w ≤ 12) {p : Ps} {rf : Nat → Ps} {N a0 : Nat} {R : List Nat} (hv : ∀ j, j < N → Vl w (rf j)) (h : antL p rf N = a0 :: R) : (rowsL N (prjF rf p a0 R)).map nf = proj (nf p) ((rowsL N rf).map nf) := by
  obtain ⟨h1, h2, h3, h4⟩ := ant_spec h
  have hg : ∀ j (hj : j < ((rowsL N rf).map nf).length), ((rowsL N rf).map nf)[j] = nf (rf j) := fun j hj => by simp [rowsL]
  have hl : ((rowsL N rf).map nf).length = N := by simp [rowsL]
  apply List.ext_getElem?
  intro j
  rw [proj_get ((rowsL N rf).map nf) a0 (by omega) (fun j hj => by rw [hg]; exact ecom_symm (comV_ecom.1 (h3 j hj))) (by rw [hg]; exact fun e => comV_false.1 h2 (ecom_symm e)), hg]
  simp only [rowsL, List.getElem?_map]
  by_cases hj : j < N
  · rw [List.getElem?_range hj]
    simp only [Option.map_some]
    congr 1
    unfold prjF prjR
    rcases Nat.lt_trichotomy j a0 with e | e | e
    · have hR : j ∉ R := fun hR => by
        have hs : (a0 :: R).Pairwise (· < ·) := by
          rw [← h]; exact List.Pairwise.filter _ List.pairwise_lt_range
        have := (List.pairwise_cons.1 hs).1 j hR
        omega
      rw [if_neg (show ¬ j = a0 by omega), if_neg hR, if_pos e]
    · rw [if_pos e, if_neg (show ¬ j < a0 by omega), if_pos e]
    · rw [if_neg (show ¬ j = a0 by omega), if_neg (show ¬ j < a0 by omega), if_neg (show ¬ j = a0 by omega)]
      have hiff := (h4 j hj e).1
      by_cases hR : j ∈ R
      · rw [if_pos hR, if_neg (show ¬ ecom (nf (rf j)) (nf p) from fun c => comV_false.1 (hiff.1 hR) (ecom_symm c)), nf_mul hw (hv j hj) (hv a0 h1)]
      · have hc : ecom (nf (rf j)) (nf p) := by
          refine ecom_symm (comV_ecom.1 ?_)
          cases hc : comV p (rf j) with
          | true => rfl
          | false => exact absurd (hiff.2 hc) hR
        rw [if_neg hR, if_pos hc]
  · rw [List.getElem?_eq_none (by simpa using hj)]; rfl
theorem ovSt_vl {w : Nat} (hw : w ≤ 12) {N : Nat} {rf0 : Nat → Ps} {P : List Ps} (hv : ∀ j, j < N → Vl w (rf0 j)) (hP : ∀ q, q ∈ P → Vl w q) : ∀ k, k ≤ P.length → ∀ j, j < N → Vl w ((ovSt N rf0 P k).1 j)
  | 0, _, j, hj => hv j hj
  | k + 1, hk, j, hj => by
    have ih := ovSt_vl hw hv hP k (by omega)
    have hg : P.getD k Ps.z0 = P[k] := by rw [List.getD_eq_getElem?_getD, List.getElem?_eq_getElem hk]; rfl
    have hp := hP _ (List.getElem_mem hk)
    simp only [ovSt, hg, ovStep]
    split
    · cases hA : antL P[k] (ovSt N rf0 P k).1 N with
      | cons a0 R =>
        have ha := (ant_spec hA).1
        dsimp only
        unfold prjF prjR
        split
        · exact hp
        · split
          · exact mul_vl hw (ih j hj) (ih a0 ha)
          · exact ih j hj
      | nil => exact ih j hj
    · exact ih j hj
theorem ant_ne {p : Ps} {rf : Nat → Ps} {N : Nat} (h : ∃ q, q ∈ (rowsL N rf).map nf ∧ ¬ ecom q (nf p)) : antL p rf N ≠ [] := by
  obtain ⟨q, hq, hc⟩ := h
  obtain ⟨r, hr, rfl⟩ := List.mem_map.1 hq
  obtain ⟨j, hj, rfl⟩ := List.mem_map.1 hr
  intro e
  have : j ∈ antL p rf N := by
    unfold antL
    rw [List.mem_filter]
    refine ⟨hj, ?_⟩
    have := comV_false.2 (fun c => hc (ecom_symm c))
    rw [this]; rfl
  rw [e] at this; cases this
theorem ovP_run {w N : Nat} {P : List Ps} {rf0 : Nat → Ps} (h : SOk w P) (h' : SOk w (rowsL N rf0)) :
    (∀ k, k ≤ P.length → (∀ j, j < k → ovEx N rf0 P j ≠ -1) → SOk w (rowsL N (ovSt N rf0 P k).1)) ∧ (∀ k, k < P.length → (∀ j, j < k → ovEx N rf0 P j ≠ -1) → ovEx N rf0 P k = 0 → antL (P.getD k Ps.z0) (ovSt N rf0 P k).1 N ≠ []) ∧ ovP N rf0 P = ovlE ((rowsL N rf0).map nf) (P.map nf) 0 := by
  have hs := sok_sta h
  have hs' := sok_sta h'
  have hv0 : ∀ j, j < N → Vl w (rf0 j) := fun j hj => h'.vl _ (List.mem_map.2 ⟨j, List.mem_range.2 hj, rfl⟩)
  have hvl := ovSt_vl h.hi hv0 h.vl
  have hsok : ∀ k, k ≤ P.length → Sta w ((rowsL N (ovSt N rf0 P k).1).map nf) → SOk w (rowsL N (ovSt N rf0 P k).1) := fun k hk hS => sta_sok ⟨h.lo, h.hi⟩ (fun q hq => by
    obtain ⟨j, hj, rfl⟩ := List.mem_map.1 hq
    exact hvl k hk j (List.mem_range.1 hj)) hS
  have hgd : ∀ k (_ : k < P.length), P.getD k Ps.z0 = P[k] := fun k hk => by rw [List.getD_eq_getElem?_getD, List.getElem?_eq_getElem hk]; rfl
  have hlen : (P.map nf).length = P.length := List.length_map _
  have hexp : ∀ k (hk : k < P.length), Sta w ((rowsL N (ovSt N rf0 P k).1).map nf) → ExpOk ((rowsL N (ovSt N rf0 P k).1).map nf) (nf P[k]) (ovEx N rf0 P k) := fun k hk hS => by
    unfold ovEx
    rw [hgd k hk]
    exact expP_ok (hsok k (by omega) hS) (h.vl _ (List.getElem_mem hk)) (hs.good.ok _ (List.mem_map.2 ⟨_, List.getElem_mem hk, rfl⟩))
  obtain ⟨r1, r2⟩ := ov_run h.hi (P.map nf) ((rowsL N rf0).map nf) (fun k => ((rowsL N (ovSt N rf0 P k).1).map nf, (ovSt N rf0 P k).2)) (ovEx N rf0 P) hs'
    (fun p hp => ⟨hs.inv p hp, hs.good.ok p hp⟩) rfl
    (fun k hk hS => by rw [List.getElem_map]; exact hexp k (by omega) hS)
    (fun k hk e => by
      unfold ovEx at e
      simp only [ovSt, ovStep]
      rw [if_neg (by rw [e]; decide)])
    (fun k hk hS e hx => by
      have hk' : k < P.length := by omega
      rw [List.getElem_map] at hx ⊢
      have hne := ant_ne hx
      unfold ovEx at e
      simp only [ovSt, ovStep]
      rw [if_pos e, hgd k hk']
      cases hA : antL P[k] (ovSt N rf0 P k).1 N with
      | nil => exact absurd hA hne
      | cons a0 R =>
        dsimp only
        rw [prjF_nf h.hi (hvl k (by omega)) hA])
  rw [hlen] at r1 r2
  refine ⟨fun k hk hj => hsok k hk (r1 k hk hj).1, fun k hk hj e => ?_, r2.symm⟩
  have hS := (r1 k (by omega) hj).1
  have hx := hexp k hk hS
  rw [hgd k hk]
  have hp := hs.good.ok _ (List.mem_map.2 ⟨_, List.getElem_mem hk, rfl⟩)
  have hpi := hs.inv _ (List.mem_map.2 ⟨_, List.getElem_mem hk, rfl⟩)
  refine ant_ne (sta_anti h.hi hS hpi hp (fun c => ?_) fun c => ?_)
  · have := hx.pos c; omega
  · have := hx.neg c; omega
theorem rowsL_get (l : List Ps) {n : Nat} (hn : l.length = n) : rowsL n (fun j => l.getD j Ps.z0) = l := by
  subst hn
  apply List.ext_getElem
  · simp [rowsL]
  · intro i h1 h2; simp [rowsL, List.getD_eq_getElem?_getD, List.getElem?_eq_getElem h2]
theorem ovl_ok {w : Nat} {l l' : List Ps} (h : SOk w l) (h' : SOk w l') : OvOk w l l' ∧ ovP l'.length (fun j => (redRows l' (2 * w)).getD j Ps.z0) (redRows l (2 * w)) = ovR w l' l := by
  obtain ⟨a1, a2⟩ := redRows_ok h
  obtain ⟨b1, b2⟩ := redRows_ok h'
  have er := rowsL_get (redRows l' (2 * w)) (redRows_len l' (2 * w))
  obtain ⟨q1, q2, q3⟩ := ovP_run (N := l'.length) (rf0 := fun j => (redRows l' (2 * w)).getD j Ps.z0) a1 (by rw [er]; exact b1)
  rw [redRows_len] at q1 q2
  refine ⟨⟨q1, q2⟩, ?_⟩
  rw [q3, (ovR_run h h').2, er]
  exact ovl_eq h.hi (sok_sta b1) (sok_sta h') (sok_sta a1) (sok_sta h) (fun g => (b2 g).symm) fun g => (a2 g).symm
end Go.Tz


/-! The entropy, the program's and the reference's. -/
namespace Go.Tz
open Go Go.AL Go.Ma
theorem min_bit {b r p : Nat} (hr : r.testBit p = true) (hp : r < 2 ^ (p + 1)) : (min b (b ^^^ r)).testBit p = false := by
  have hb : ∀ a : Nat, (a.testBit p = true → a ^^^ r < a) := by
    intro a ha
    have h1 : a / 2 ^ (p + 1) = (a ^^^ r) / 2 ^ (p + 1) := by
      have : (a ^^^ r) >>> (p + 1) = a >>> (p + 1) := by
        rw [Nat.shiftRight_xor_distrib]
        have : r >>> (p + 1) = 0 := by rw [Nat.shiftRight_eq_div_pow]; exact Nat.div_eq_of_lt hp
        rw [this, Nat.xor_zero]
      rw [Nat.shiftRight_eq_div_pow, Nat.shiftRight_eq_div_pow] at this
      exact this.symm
    have h2 : (a ^^^ r).testBit p = false := by rw [Nat.testBit_xor, ha, hr]; rfl
    have e1 : a % 2 ^ (p + 1) = a % 2 ^ p + 2 ^ p := by
      rw [Nat.pow_succ, Nat.mod_mul]
      rw [Nat.testBit_eq_decide_div_mod_eq] at ha
      have : a / 2 ^ p % 2 = 1 := by simpa using ha
      rw [this]; omega
    have e2 : (a ^^^ r) % 2 ^ (p + 1) = (a ^^^ r) % 2 ^ p := by
      rw [Nat.pow_succ, Nat.mod_mul]
      rw [Nat.testBit_eq_decide_div_mod_eq] at h2
      have : (a ^^^ r) / 2 ^ p % 2 = 0 := by
        have := Nat.mod_two_eq_zero_or_one ((a ^^^ r) / 2 ^ p)
        rcases this with h | h
        · exact h
        · rw [h] at h2; simp at h2
      rw [this]; omega
    have e3 : (a ^^^ r) % 2 ^ p < 2 ^ p := Nat.mod_lt _ (Nat.two_pow_pos p)
    have e4 := Nat.div_add_mod a (2 ^ (p + 1))
    have e5 := Nat.div_add_mod (a ^^^ r) (2 ^ (p + 1))
    rw [← h1] at e5
    omega
  by_cases h : b.testBit p = true
  · have := hb b h
    rw [Nat.min_eq_right (by omega), Nat.testBit_xor, h, hr]; rfl
  · have h' : (b ^^^ r).testBit p = true := by rw [Nat.testBit_xor, hr]; simp [h]
    have := hb (b ^^^ r) h'
    rw [xor_cancel] at this
    rw [Nat.min_eq_left (by omega)]
    simpa using h
theorem top_bit {r : Nat} (h : r ≠ 0) : r.testBit (Nat.log2 r) = true ∧ r < 2 ^ (Nat.log2 r + 1) := by
  have h1 := Nat.lt_log2_self (n := r)
  refine ⟨?_, h1⟩
  have h2 := Nat.log2_self_le h
  rw [Nat.testBit_eq_decide_div_mod_eq]
  have : r / 2 ^ Nat.log2 r = 1 := by
    rw [Nat.pow_succ] at h1
    have a1 : 1 ≤ r / 2 ^ Nat.log2 r := by rw [Nat.le_div_iff_mul_le (Nat.two_pow_pos _)]; omega
    have a2 : r / 2 ^ Nat.log2 r < 2 := by rw [Nat.div_lt_iff_lt_mul (Nat.two_pow_pos _)]; omega
    omega
  rw [this]; rfl
/-- Numbers of which none has the top bit of an earlier one. -/
structure Bas (B : List Nat) : Prop where
  nz : ∀ r, r ∈ B → r ≠ 0
  pw : B.Pairwise fun r r' => r'.testBit (Nat.log2 r) = false
theorem bas_zero : ∀ {B : List Nat}, Bas B → ∀ {u : Nat}, spB B u = true → (∀ r, r ∈ B → u.testBit (Nat.log2 r) = false) → u = 0
  | [], _, u, h, _ => by simpa only [spB, beq_iff_eq] using h
  | r :: B, hB, u, h, hz => by
    have hB2 : Bas B := ⟨fun x hx => hB.nz x (List.mem_cons_of_mem _ hx), (List.pairwise_cons.1 hB.pw).2⟩
    have hlt := (List.pairwise_cons.1 hB.pw).1
    simp only [spB, Bool.or_eq_true] at h
    rcases h with h | h
    · exact bas_zero hB2 h fun x hx => hz x (List.mem_cons_of_mem _ hx)
    · have h1 := sp_bit (j := Nat.log2 r) B hlt _ h
      rw [Nat.testBit_xor, hz r (by simp), (top_bit (hB.nz r (by simp))).1] at h1
      cases h1
theorem bas_ind : ∀ {B : List Nat}, Bas B → Ind B
  | [], _ => rfl
  | r :: B, hB => by
    have hB2 : Bas B := ⟨fun x hx => hB.nz x (List.mem_cons_of_mem _ hx), (List.pairwise_cons.1 hB.pw).2⟩
    refine ind_cons.2 ⟨bas_ind hB2, ?_⟩
    cases e : spB B r with
    | false => rfl
    | true =>
      have := sp_bit (j := Nat.log2 r) B (List.pairwise_cons.1 hB.pw).1 _ e
      rw [(top_bit (hB.nz r (by simp))).1] at this; cases this
theorem min_spec (b : Nat) : ∀ (n : Nat) (B : List Nat), B.length = n → Bas B → (∀ r, r ∈ B → (minB B b).testBit (Nat.log2 r) = false) ∧ spB B (minB B b ^^^ b) = true
  | 0, B, hl, _ => by
    have : B = [] := List.length_eq_zero_iff.1 hl
    subst this
    refine ⟨fun r hr => (by cases hr), ?_⟩
    show spB [] (b ^^^ b) = true
    rw [Nat.xor_self]; rfl
  | n + 1, B, hl, hB => by
    obtain ⟨A, r, rfl⟩ : ∃ A r, B = A ++ [r] := ⟨B.dropLast, B.getLast (by intro e; subst e; cases hl), (List.dropLast_concat_getLast _).symm⟩
    have hA : Bas A := ⟨fun x hx => hB.nz x (by simp [hx]), (List.pairwise_append.1 hB.pw).1⟩
    have hcross := (List.pairwise_append.1 hB.pw).2.2
    obtain ⟨i1, i2⟩ := min_spec b n A (by simpa using hl) hA
    have hr := top_bit (hB.nz r (by simp))
    have e : minB (A ++ [r]) b = min (minB A b) (minB A b ^^^ r) := by unfold minB; rw [List.foldl_append]; rfl
    rw [e]
    have up : ∀ v, spB A v = true → spB (A ++ [r]) v = true := sp_sub A _ fun a ha => sp_mem _ _ (by simp [ha])
    refine ⟨fun x hx => ?_, ?_⟩
    · rcases List.mem_append.1 hx with h | h
      · have c1 := i1 x h
        have c2 : (minB A b ^^^ r).testBit (Nat.log2 x) = false := by rw [Nat.testBit_xor, c1, hcross x h r (by simp)]; rfl
        rcases Nat.le_total (minB A b) (minB A b ^^^ r) with q | q
        · rw [Nat.min_eq_left q]; exact c1
        · rw [Nat.min_eq_right q]; exact c2
      · rw [List.mem_singleton.1 h]; exact min_bit hr.1 hr.2
    · rcases Nat.le_total (minB A b) (minB A b ^^^ r) with q | q
      · rw [Nat.min_eq_left q]; exact up _ i2
      · rw [Nat.min_eq_right q]
        have e2 : minB A b ^^^ r ^^^ b = minB A b ^^^ b ^^^ r := by rw [Nat.xor_assoc, Nat.xor_comm r, ← Nat.xor_assoc]
        rw [e2]
        exact sp_xor _ _ _ (up _ i2) (sp_mem _ _ (by simp))
theorem rk_spec (l : List Rn) : ∀ i, i ≤ l.length → Bas (rkSt l i).2 ∧ (∀ v, spB (rkSt l i).2 v = spB ((l.take i).map fun p => p.1 + 4096 * p.2) v) ∧ ∀ p, p ∈ (rkSt l i).1 → p ∈ l.take i
  | 0, _ => ⟨⟨fun _ h => (by cases h), .nil⟩, fun _ => rfl, fun _ h => (by cases h)⟩
  | i + 1, hi => by
    obtain ⟨h1, h2, h3⟩ := rk_spec l i (by omega)
    rw [rkSt_snoc (by omega), take_snoc (show i < l.length by omega)]
    generalize rkSt l i = s at h1 h2 h3
    generalize l[i] = p
    have hsub : ∀ v, spB s.2 v = true → spB ((l.take i ++ [p]).map fun p => p.1 + 4096 * p.2) v = true := fun v hv => by
      rw [h2] at hv
      exact sp_sub _ _ (fun a ha => by
        obtain ⟨q, hq, rfl⟩ := List.mem_map.1 ha
        exact sp_mem _ _ (List.mem_map.2 ⟨q, by simp [hq], rfl⟩)) v hv
    have hp : spB ((l.take i ++ [p]).map fun p => p.1 + 4096 * p.2) (p.1 + 4096 * p.2) = true := sp_mem _ _ (List.mem_map.2 ⟨p, by simp, rfl⟩)
    have back : ∀ B : List Nat, (∀ v, spB s.2 v = true → spB B v = true) → spB B (p.1 + 4096 * p.2) = true → ∀ a, a ∈ (l.take i ++ [p]).map (fun p => p.1 + 4096 * p.2) → spB B a = true := fun B hB hv a ha => by
      obtain ⟨q, hq, rfl⟩ := List.mem_map.1 ha
      rcases List.mem_append.1 hq with e | e
      · exact hB _ (by rw [h2]; exact sp_mem _ _ (List.mem_map.2 ⟨q, e, rfl⟩))
      · rw [List.mem_singleton.1 e]; exact hv
    unfold rkStep
    by_cases c : p ∈ s.1
    · rw [if_pos c]
      have hv : spB s.2 (p.1 + 4096 * p.2) = true := by rw [h2]; exact sp_mem _ _ (List.mem_map.2 ⟨p, h3 p c, rfl⟩)
      exact ⟨h1, sp_ext (fun a ha => hsub a (sp_mem _ _ ha)) (back _ (fun _ h => h) hv), fun q hq => by simp [h3 q hq]⟩
    · rw [if_neg c]
      obtain ⟨m1, m2⟩ := min_spec (p.1 + 4096 * p.2) _ s.2 rfl h1
      have hm3 : ∀ q, q ∈ s.1 ++ [p] → q ∈ l.take i ++ [p] := fun q hq => by
        rcases List.mem_append.1 hq with e | e
        · simp [h3 q e]
        · rw [List.mem_singleton.1 e]; simp
      dsimp only
      generalize minB s.2 (p.1 + 4096 * p.2) = m at m1 m2 ⊢
      by_cases z : m = 0
      · rw [if_pos z]
        rw [z, Nat.zero_xor] at m2
        exact ⟨h1, sp_ext (fun a ha => hsub a (sp_mem _ _ ha)) (back _ (fun _ h => h) m2), hm3⟩
      · rw [if_neg z]
        refine ⟨⟨fun r hr => ?_, List.pairwise_append.2 ⟨h1.pw, List.pairwise_singleton _ _, fun a ha b hb => ?_⟩⟩, sp_ext (fun a ha => ?_) (back _ (fun v hv => sp_sub _ _ (fun a ha => sp_mem _ _ (by simp [ha])) v hv) ?_), hm3⟩
        · rcases List.mem_append.1 hr with e | e
          · exact h1.nz r e
          · rw [List.mem_singleton.1 e]; exact z
        · rw [List.mem_singleton.1 hb]; exact m1 a ha
        · rcases List.mem_append.1 ha with e | e
          · exact hsub a (sp_mem _ _ e)
          · rw [List.mem_singleton.1 e]
            have := sp_xor _ _ _ (hsub _ m2) hp
            rwa [xor_cancel] at this
        · have a1 : spB (s.2 ++ [m]) (m ^^^ (p.1 + 4096 * p.2)) = true := sp_sub _ _ (fun a ha => sp_mem _ _ (by simp [ha])) _ m2
          have a2 : spB (s.2 ++ [m]) m = true := sp_mem _ _ (by simp)
          have := sp_xor _ _ _ a1 a2
          have e : m ^^^ (p.1 + 4096 * p.2) ^^^ m = p.1 + 4096 * p.2 := by rw [Nat.xor_comm m, xor_cancel]
          rwa [e] at this
theorem rk_len {l : List Rn} (h : ∀ r, r ∈ l → r.1 < 4096 ∧ r.2 < 4096) : (rkSt l l.length).2.length = rk (l.map fun p => p.1 + 4096 * p.2) := by
  obtain ⟨h1, h2, _⟩ := rk_spec l l.length (Nat.le_refl _)
  rw [List.take_length] at h2
  have := bas_ind h1
  unfold Ind at this
  rw [← this]
  refine rk_eq (k := 24) (fun a ha => (rk_inv h (Nat.le_refl _)).2 a ha) (fun a ha => ?_) h2
  obtain ⟨q, hq, rfl⟩ := List.mem_map.1 ha
  have := h q hq
  omega
end Go.Tz


/-! Strings on some wires. -/
namespace Go.Tz
open Go Go.AL Go.Ma
theorem or_pow {A V : Nat} (h : A.testBit V = false) : A ||| 2 ^ V = A + 2 ^ V := by
  have h1 : A / 2 ^ V % 2 = 0 := by
    rw [Nat.testBit_eq_decide_div_mod_eq] at h
    have := of_decide_eq_false h
    omega
  have h2 := Nat.div_add_mod A (2 ^ V)
  have hb : A % 2 ^ V < 2 ^ V := Nat.mod_lt _ (Nat.two_pow_pos V)
  generalize hq : A / 2 ^ V = q at h1 h2
  generalize A % 2 ^ V = b at h2 hb
  have e1 : 2 ^ V * q + b = 2 ^ V * q ||| b := Nat.two_pow_add_eq_or_of_lt hb q
  have e2 : 2 ^ V * (q + 1) + b = 2 ^ V * (q + 1) ||| b := Nat.two_pow_add_eq_or_of_lt hb (q + 1)
  have e3 : 2 ^ V * (q + 1) = 2 ^ V * q ||| 2 ^ V := by
    have h3 : q = 2 * (q / 2) := by omega
    have h4 : 2 ^ V < 2 ^ (V + 1) := by rw [Nat.pow_succ]; have := Nat.two_pow_pos V; omega
    have := Nat.two_pow_add_eq_or_of_lt h4 (q / 2)
    have h5 : 2 ^ (V + 1) * (q / 2) = 2 ^ V * q := by
      rw [Nat.pow_succ, Nat.mul_assoc, ← h3]
    rw [h5] at this
    rw [← this, Nat.mul_add, Nat.mul_one]
  rw [← h2, e1, Nat.or_assoc, Nat.or_comm b, ← Nat.or_assoc, ← e3, ← e2, Nat.mul_add, Nat.mul_one]
  omega
theorem bitI_nat {X V : Nat} (hV : V ≤ 64) (hX : X < 2 ^ 63) : bitI (X : Int) (V : Int) = if X.testBit V then 1 else 0 := bit_nat hV hX
theorem and_snoc {X m V : Nat} (hm : m.testBit V = false) : X &&& (m ||| 2 ^ V) = if X.testBit V then (X &&& m) + 2 ^ V else X &&& m := by
  have h2 : X &&& 2 ^ V = if X.testBit V then 2 ^ V else 0 := by
    refine Nat.eq_of_testBit_eq fun j => ?_
    rw [Nat.testBit_and, Nat.testBit_two_pow]
    by_cases e : V = j
    · subst e
      cases q : X.testBit V with
      | true => rw [if_pos rfl, Nat.testBit_two_pow]; simp
      | false => rw [if_neg (by simp)]; simp
    · cases q : X.testBit V with
      | true => rw [if_pos rfl, Nat.testBit_two_pow]; simp [e]
      | false => rw [if_neg (by simp)]; simp [e]
  rw [Nat.and_or_distrib_left, h2]
  cases e : X.testBit V with
  | true =>
    rw [if_pos rfl, if_pos rfl, ← or_pow (by rw [Nat.testBit_and, hm, Bool.and_false])]
  | false => simp
theorem withS_nat {w X' Z' X Z V : Nat} (hX : X < 4096) (hZ : Z < 4096) (hX' : X' < 4096) (hZ' : Z' < 4096) (hV : V < 12) (b1 : X'.testBit V = false) (b2 : Z'.testBit V = false) :
    withS (mk w X' Z' 0) V (letterI X Z V) = mk w (if X.testBit V then X' + 2 ^ V else X') (if Z.testBit V then Z' + 2 ^ V else Z') 0 := by
  have c1 : bitI (X' : Int) (V : Int) = 0 := by rw [bitI_nat (by omega) (by omega), b1]; rfl
  have c2 : bitI (Z' : Int) (V : Int) = 0 := by rw [bitI_nat (by omega) (by omega), b2]; rfl
  have hl : letterI (X' : Int) (Z' : Int) (V : Int) = 0 := by unfold letterI; rw [c1, c2]; rfl
  have hp : (2 : Nat) ^ V < 2 ^ 12 := Nat.pow_lt_pow_right (by decide) hV
  have a1 : iadd .i64 (X' : Int) (ishl .i64 1 (V : Int)) = ((X' + 2 ^ V : Nat) : Int) := by rw [pow_nat (by omega), iadd_nat (by omega)]
  have a2 : iadd .i64 (Z' : Int) (ishl .i64 1 (V : Int)) = ((Z' + 2 ^ V : Nat) : Int) := by rw [pow_nat (by omega), iadd_nat (by omega)]
  have hL : letterI (X : Int) (Z : Int) (V : Int) = if X.testBit V && Z.testBit V then 2 else if X.testBit V then 1 else if Z.testBit V then 3 else 0 := by
    unfold letterI
    rw [bitI_nat (by omega) (by omega), bitI_nat (by omega) (by omega)]
    cases X.testBit V <;> cases Z.testBit V <;> rfl
  show (⟨(w : Int), (withI (X' : Int) (Z' : Int) (V : Int) (letterI X Z V)).1, (withI (X' : Int) (Z' : Int) (V : Int) (letterI X Z V)).2, 0⟩ : Ps) = _
  unfold withI
  rw [hl, c2]
  dsimp only
  rw [if_neg (show ¬ ((0 : Int) = 1 ∨ (0 : Int) = 2) by decide), if_neg (show ¬ ((0 : Int) = 1) by decide), a1, a2, hL]
  cases X.testBit V <;> cases Z.testBit V <;> rfl
theorem entE_zero {w : Int} {ks : List Int} (h : entE w ks = 0) : ∀ i, i < ks.length → entA w ks i = 0 := by
  have : ∀ m, (∃ i, i < m ∧ i < ks.length ∧ entA w ks i ≠ 0) → False := by
    intro m
    induction m with
    | zero => rintro ⟨i, h, _⟩; omega
    | succ m ih =>
      rintro ⟨i, h1, h2, h3⟩
      by_cases q : ∃ i, i < m ∧ i < ks.length ∧ entA w ks i ≠ 0
      · exact ih q
      · have := entE_at h2 (fun j hj => Classical.byContradiction fun e => q ⟨j, by omega, by omega, e⟩) h3
        rw [h] at this; exact h3 this.symm
  exact fun i hi => Classical.byContradiction fun e => this (i + 1) ⟨i, by omega, hi, e⟩
theorem rest_mk {w X Z P : Nat} (hw : w ≤ 12) (hX : X < 2 ^ w) (hZ : Z < 2 ^ w) {ks : List Int} (h : entE w ks = 0) : ∀ i, i ≤ ks.length → restS w (mk w X Z P) (ks.take i) = mk w (X &&& maskN (ks.take i)) (Z &&& maskN (ks.take i)) 0
  | 0, _ => by
    show mk w 0 0 0 = mk w (X &&& 0) (Z &&& 0) 0
    rw [Nat.and_zero, Nat.and_zero]
  | i + 1, hi => by
    have ih := rest_mk (P := P) hw hX hZ h i (by omega)
    have hi' : i < ks.length := by omega
    have ha := entA_ok hi' (entE_zero h i hi')
    have hp : (2 : Nat) ^ w ≤ 2 ^ 12 := Nat.pow_le_pow_right (by decide) hw
    rw [take_snoc hi', rest_snoc, ih]
    have hms := mask_snoc hi'
    rw [take_snoc hi'] at hms
    rw [hms]
    obtain ⟨V, hV⟩ : ∃ V : Nat, ks[i] = V := ⟨ks[i].toNat, by omega⟩
    have hbit : (maskN (ks.take i)).testBit V = false := by
      rw [mask_bit]
      refine List.any_eq_false.2 fun k hk => ?_
      obtain ⟨j, hj, rfl⟩ := List.mem_take_iff_getElem.1 hk
      have hj' : j < ks.length := by omega
      have hb := entA_ok hj' (entE_zero h j hj')
      intro e
      have e := of_decide_eq_true e
      have : ks[i] = ks[j] := by omega
      exact ha.2.2 (by rw [this]; exact hk)
    rw [hV, Int.toNat_natCast, and_snoc hbit, and_snoc hbit]
    have l1 : X &&& maskN (ks.take i) ≤ X := Nat.and_le_left
    have l2 : Z &&& maskN (ks.take i) ≤ Z := Nat.and_le_left
    exact withS_nat (w := w) (by omega) (by omega) (by omega) (by omega) (by omega) (by rw [Nat.testBit_and, hbit, Bool.and_false]) (by rw [Nat.testBit_and, hbit, Bool.and_false])
/-- The two entropies are one. -/
theorem ent_eq {w : Nat} {l : List Ps} (hs : SOk w l) {ks : List Int} (h : entE w ks = 0) : isub .i64 (rkSt (maskL l (maskN ks)) l.length).2.length ks.length = entR w l ks := by
  unfold entR
  congr 1
  have hp : (2 : Nat) ^ w ≤ 2 ^ 12 := Nat.pow_le_pow_right (by decide) hs.hi
  have hr : ∀ q, q ∈ l → restS w q ks = mk w (q.x.toNat &&& maskN ks) (q.z.toNat &&& maskN ks) 0 := fun q hq => by
    obtain ⟨X, Z, P, rfl, h1, h2, h3⟩ := hs.vl q hq
    have := rest_mk (P := P) hs.hi h1 h2 h ks.length (Nat.le_refl _)
    rwa [List.take_length] at this
  have hq : ∀ q, q ∈ l → q.x.toNat < 2 ^ w ∧ q.z.toNat < 2 ^ w := fun q hq => by
    obtain ⟨X, Z, P, rfl, h1, h2, h3⟩ := hs.vl q hq
    exact ⟨h1, h2⟩
  have hvl : ∀ r, r ∈ l.map (fun q => restS w q ks) → Vl w r := fun r hr' => by
    obtain ⟨q, hq', rfl⟩ := List.mem_map.1 hr'
    rw [hr q hq']
    exact ⟨_, _, 0, rfl, Nat.lt_of_le_of_lt Nat.and_le_left (hq q hq').1, Nat.lt_of_le_of_lt Nat.and_le_left (hq q hq').2, by decide⟩
  have e1 := rank_rk hs.hi hvl
  rw [revl_rfv0, rk_rev (fun a ha => by obtain ⟨q, hq', rfl⟩ := List.mem_map.1 ha; exact vec_lt hs.hi (hvl q hq'))] at e1
  have e2 := rk_len (l := maskL l (maskN ks)) (fun r hr' => by
    obtain ⟨q, hq', rfl⟩ := List.mem_map.1 hr'
    have := hq q hq'
    exact ⟨Nat.lt_of_le_of_lt Nat.and_le_left (by omega), Nat.lt_of_le_of_lt Nat.and_le_left (by omega)⟩)
  have hml : (maskL l (maskN ks)).length = l.length := by simp [maskL]
  rw [hml] at e2
  rw [e1, e2]
  congr 2
  rw [List.map_map, maskL, List.map_map]
  refine List.map_congr_left fun q hq' => ?_
  show (q.x.toNat &&& maskN ks) + 4096 * (q.z.toNat &&& maskN ks) = vec (restS w q ks)
  rw [hr q hq']
  unfold vec
  rw [nf_mk]
end Go.Tz


/-! The law's alike. -/
namespace Go.Tz
open Go Go.AL Go.Proofs Go.Ma
theorem chk37 : chkFn Tryz.f37 = true := by kernel_rfl
theorem alikeE (e : Int) : PC Pr GG 37 [stD 0 [] true, stD 0 [] true, iD e, iD e] (.bool true) := by
  have h1 := theirs_c (G := GG) 0 [] true (by simp)
  have h2 := equal27 (G := GG) 0 0 [] [] false true (by simp)
  rw [decide_eq_true ⟨rfl, rfl⟩] at h2
  refine pc_walk pok Tryz.func37 chk37 ?_
  conv => whnf
  repeat' first
    | (refine LookP.mk _ rfl ?_; conv => whnf)
    | (refine ShlP.mk _ (by first | (simp only [List.set, over, List.take, List.drop, List.append_eq, List.nil_append, List.cons_append, List.length]; rfl) | rfl) ?_; conv => whnf)
    | (refine And.intro (by first | assumption | exact ⟨by kernel_rfl, rfl⟩ | decide | omega | exact ⟨rfl, by decide, by simp only [List.length_map, Nat.zero_add]; omega⟩) ?_; conv => whnf)
    | (refine pc_use (h1) ?_; conv => whnf)
    | (refine pc_head (h1) ?_; conv => whnf)
    | (refine pc_use (h2) ?_; conv => whnf)
    | (refine pc_head (h2) ?_; conv => whnf)
    | (refine HpP.force ?_; conv => whnf)
    | (intro t ht; cases t <;> conv => whnf)
  · exfalso; simp at ht
  · exact fin rfl
theorem lendA {V : AHeap} {nm sz N : Nat} {t : Bool} {es : List (List D)} {a : D} (hg : V.get nm = some (dblk sz es)) (hN : N = es.length) : mapO (asDX V 9 []) [.agg [.d a, .sl nm sz 0 N N t]] = some [.agg [a, .sl es t]] := by
  have h := asDX_sl (q := 6) (vis := []) (t := t) hg hN
  have e1 : asDX V 8 [] (.d a) = some a := rfl
  have e3 : asDX V 9 [] (.agg [.d a, .sl nm sz 0 N N t]) = some (.agg [a, .sl es t]) := by
    unfold asDX
    simp only [mapO, e1, h]
  simp only [mapO, e3]
theorem flat_rows (m : List Ps) : Blk.flat (dblk 4 (m.map Ps.l)) = true := by
  unfold dblk Blk.flat
  refine List.all_eq_true.2 fun el hel => ?_
  obtain ⟨x, hx, rfl⟩ := List.mem_map.1 hel
  obtain ⟨q, _, rfl⟩ := List.mem_map.1 hx
  rfl
theorem flOf_rows (a : D) (n : Nat) (t : Bool) (m : List Ps) : flOf (.agg [.d a, .sl 0 4 0 n n t]) [(0, some (dblk 4 (m.map Ps.l)))] = [(0, some (dblk 4 (m.map Ps.l)))] := by
  show AHeap.fl [(0, some (dblk 4 (m.map Ps.l)))] = _
  unfold AHeap.fl
  rw [flat_rows]; rfl
end Go.Tz

