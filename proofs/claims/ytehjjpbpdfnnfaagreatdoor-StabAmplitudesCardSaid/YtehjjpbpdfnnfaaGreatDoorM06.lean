import Derived.Test.YtehjjpbpdfnnfaaGreatDoorM05
namespace Go.Tz
open Go Go.AL Go.Ma
def zP (w n o : Nat) : Ps := mk w 0 (2 ^ n) (2 * o)
theorem zku {w n o : Nat} (hn : n < w) (ho : o ≤ 1) : Vl w (zP w n o) := ⟨0, 2 ^ n, 2 * o, rfl, Nat.two_pow_pos w, Nat.pow_lt_pow_right (by decide) hn, by omega⟩
theorem zur {w n o : Nat} (hw : w ≤ 12) (hn : n < w) (ho : o ≤ 1) : eok (nf (zP w n o)) := by
 rw [zor hw (zku hn ho)]
 show ((2 * o : Nat) : Int).tmod 2 = 0
 rw [Int.tmod_eq_emod_of_nonneg (by omega)]; omega
theorem zdu {L : List E} {g : E} {e : Int} (h : ExpOk L g e) : (e = 1 ∧ Gen L g) ∨ (e = -1 ∧ Gen L (eneg g)) ∨ (e = 0 ∧ ¬ Gen L g ∧ ¬ Gen L (eneg g)) := by
 by_cases a : Gen L g
 ·exact .inl ⟨h.pos a, a⟩
 ·by_cases b : Gen L (eneg g)
  ·exact .inr (.inl ⟨h.neg b, b⟩)
  ·exact .inr (.inr ⟨h.zero a b, a, b⟩)
theorem zpy {w N : Nat} (hw : w ≤ 12) {rf : Nat → Ps} {p : Ps} {a0 : Nat} {R : List Nat} (hv : ∀ j, j < N → Vl w (rf j)) (hp : Vl w p) (ha : a0 < N) : ∀ j, j < N → Vl w (prjF rf p a0 R j) := by
 intro j hj
 unfold prjF prjR
 split
 ·exact hp
 ·split
  ·exact zd1 hw (hv j hj) (hv a0 ha)
  ·exact hv j hj
theorem zws {w : Nat} {l r : List Ps} (h : SOk w l) (h' : SOk w r) (hg : SameG (r.map nf) (l.map nf)) {p : Ps} (hp : Vl w p) (hk : eok (nf p)) :
  expP r p = expR w l p ∧ (expR w l p = 0 → SOk w (prjL p l) ∧ ∃ a0 R, antL p (fun j => r.getD j Ps.z0) w = a0 :: R ∧ a0 < w ∧ redRows (rowsL w (prjF (fun j => r.getD j Ps.z0) p a0 R)) (2 * w) = redRows (prjL p l) (2 * w)) := by
 have x1 := expP_ok h' hp hk
 have x2 := zh2 h hp hk
 refine ⟨zug hg x1 x2, fun h0 => ?_⟩
 have hs := zbs h
 have hs' := zbs h'
 have hpin : inV w (nf p).2 := zk5 h.hi hp
 have hn : ¬ Gen (l.map nf) (nf p) ∧ ¬ Gen (l.map nf) (eneg (nf p)) := by
  rcases zdu x2 with ⟨a, _⟩ | ⟨a, _⟩ | ⟨_, b⟩
  ·rw [a] at h0; cases h0
  ·rw [a] at h0; cases h0
  ·exact b
 have hn' : ¬ Gen (r.map nf) (nf p) ∧ ¬ Gen (r.map nf) (eneg (nf p)) := ⟨fun q => hn.1 ((hg _).1 q), fun q => hn.2 ((hg _).1 q)⟩
 have er := zjr r h'.len
 have hx := zgt h.hi hs' hpin hk hn'.1 hn'.2
 rw [← er] at hx
 have hne := ant_ne hx
 have hS : SOk w (prjL p l) := by
  refine zjm ⟨h.lo, h.hi⟩ (zpx h.hi hp h.vl) ?_
  rw [zhw h.hi h.vl hs.good]
  exact zma h.hi hs hpin hk hn.1 hn.2
 refine ⟨hS, ?_⟩
 cases hA : antL p (fun j => r.getD j Ps.z0) w with
 | nil => exact absurd hA hne
 | cons a0 R =>
  have hv : ∀ j, j < w → Vl w (r.getD j Ps.z0) := fun j hj => by
   rw [List.getD_eq_getElem?_getD, List.getElem?_eq_getElem (by rw [h'.len]; exact hj), Option.getD_some]
   exact h'.vl _ (List.getElem_mem _)
  have ha := (zfz hA).1
  refine ⟨a0, R, rfl, ha, ?_⟩
  have hf := prjF_nf h.hi hv hA
  rw [er] at hf
  have hS2 : SOk w (rowsL w (prjF (fun j => r.getD j Ps.z0) p a0 R)) := by
   refine zjm ⟨h.lo, h.hi⟩ (fun q hq => ?_) ?_
   ·obtain ⟨j, hj, rfl⟩ := List.mem_map.1 hq
    exact zpy h.hi hv hp ha j (List.mem_range.1 hj)
   ·rw [hf]
    exact zma h.hi hs' hpin hk hn'.1 hn'.2
  refine zrj hS2 hS ?_
  rw [hf, zhw h.hi h.vl hs.good]
  exact zv0 h.hi hs' hs hpin hk hg hn'.1 hn'.2
end Go.Tz
namespace Go.Tz
open Go Go.AL Go.Proofs
variable {G : Nat → Option (List D)}
structure Gt where
 (k : Int)
 (ws : List Int)
 (u : Bool)
 (b i : Int)
def Gt.l (g : Gt) : List D := [iD g.k, intsD g.ws g.u, iD g.b, iD g.i]
abbrev Gt.d (g : Gt) : D := .agg g.l
abbrev gatesD (l : List Gt) (t : Bool) : D := .sl (l.map Gt.l) t
abbrev circD (w b : Int) (l : List Gt) (t : Bool) : D := .agg [iD w, iD b, gatesD l t]
theorem get_g {l : List Gt} {k : Nat} (h : k < l.length) : (l.map Gt.l)[(k : Int).toNat]? = some (l[k]).l := by simp [h]
theorem chk201 : chkFn Tryz.f201 = true := by kernel_rfl
theorem idx201 (l : List Gt) (t : Bool) (f : FuncId) (first cap : List D) (p : Gt → Bool) (hn : l.length ≤ 1000) (hf : ∀ q, q ∈ l → PC Pr G f (first ++ [q.d] ++ cap) (.bool (p q))) : PC Pr G 201 [gatesD l t, .fn f first cap] (iD (idxI p l)) := by
 refine zak pok Tryz.func201 chk201 ?_
 conv => whnf
 skip
 refine zar pok (fun i => ⟨[(0, .d (gatesD l t)), (1, .d (.fn f first cap)), (7, .d (iD (l.map Gt.l).length)), (8, .d (iD i))], [], 0⟩) (l.length) (fun i => ∀ q, q ∈ l.take i → p q = false) (by simp) ?_ (by kernel_rfl) ?_ ?_
 ·refine zad (by first | exact Nat.zero_le _ | exact Nat.le_of_ble_eq_true rfl) ?_ ?_ trivial
  ·repeat' first | exact trivial | refine ⟨⟨by first | rfl | assumption, rfl⟩, ?_⟩
  ·repeat' first | exact trivial | refine ⟨⟨ltB rfl, _, rfl, by first | rfl | assumption, by first | exact zaf rfl | exact zaa _ _ _ | exact zab rfl⟩, ?_⟩
 ·intro i A_i h_i I_i N_i
  have e_i : iadd .i64 (i : Int) 1 = ((i + 1 : Nat) : Int) := zai (by first | omega | (simp at *; omega))
  have hq := hf l[i] (List.getElem_mem h_i)
  conv => whnf
  repeat' first | ((first | refine LookP.mk _ (by first | rfl | exact get_g h_i) ?_ | refine And.intro (by first | assumption | exact ⟨by kernel_rfl, rfl⟩ | decide | omega) ?_ | rw [za1] | refine zel hq rfl ?_); conv => whnf) | (intro t ht; cases t <;> conv => whnf)
  ·exfalso; simp at ht; omega
  ·refine N_i _ ?_ ?_
   ·exact zjk h_i ht I_i
   ·refine zad (by first | exact Nat.zero_le _ | exact Nat.le_of_ble_eq_true rfl) ?_ ?_ trivial
    ·repeat' first | exact trivial | refine ⟨⟨by first | rfl | assumption | exact congrArg (fun n => AV.d (iD n)) e_i, rfl⟩, ?_⟩
    ·repeat' first | exact trivial | refine ⟨⟨ltB rfl, _, rfl, by first | rfl | assumption, by first | exact zaf rfl | exact zaa _ _ _ | exact zab rfl⟩, ?_⟩
  ·refine fin ?_
   rw [zfc h_i ht I_i]
 ·intro A_last I_last
  conv => whnf
  repeat' first | ((first | refine And.intro (by first | assumption | exact ⟨by kernel_rfl, rfl⟩ | decide | omega) ?_ | fail); conv => whnf) | (intro t ht; cases t <;> conv => whnf)
  ·rw [List.take_length] at I_last
   rw [zfd I_last]; exact fin rfl
  ·exfalso; simp at ht
theorem chk116 : chkFn Tryz.f116 = true := by kernel_rfl
theorem has116 (l : List Gt) (t : Bool) (f : FuncId) (first cap : List D) (p : Gt → Bool) (hn : l.length ≤ 1000) (hf : ∀ q, q ∈ l → PC Pr G f (first ++ [q.d] ++ cap) (.bool (p q))) : PC Pr G 116 [gatesD l t, .fn f first cap] (.bool (l.any p)) := by
 have hi := idx201 l t f first cap p hn hf
 rw [← zmr]
 generalize idxI p l = i at hi ⊢
 refine zak pok Tryz.func116 chk116 ?_
 conv => whnf
 repeat' first | (refine zaj hi ?_; conv => whnf) | (intro t ht; cases t <;> conv => whnf)
 all_goals rw [ht]; exact fin rfl
theorem chk253 : chkFn Tryz.f253 = true := by kernel_rfl
theorem ev253 (q : Gt) (f : FuncId) (first cap : List D) (b : Bool) (hf : PC Pr G f (first ++ [q.d] ++ cap) (.bool b)) : PC Pr G 253 [q.d, .rop [.fn f first cap] 0] (.bool (!b)) := by
 refine zak pok Tryz.func253 chk253 ?_
 conv => whnf
 repeat' first | ((first | refine LookP.mk _ rfl ?_ | rw [za1] | refine zel hf rfl ?_); conv => whnf) | (intro t ht; cases t <;> conv => whnf)
 all_goals rw [ht]; exact fin rfl
theorem chk206 : chkFn Tryz.f206 = true := by kernel_rfl
theorem every206 (l : List Gt) (t : Bool) (f : FuncId) (first cap : List D) (p : Gt → Bool) (hn : l.length ≤ 1000) (hf : ∀ q, q ∈ l → PC Pr G f (first ++ [q.d] ++ cap) (.bool (p q))) : PC Pr G 206 [gatesD l t, .fn f first cap] (.bool (l.all p)) := by
 have hi := has116 (G := G) l t 253 [] [.rop [.fn f first cap] 0] (fun q => !p q) hn fun q hq => ev253 q f first cap (p q) (hf q hq)
 refine zak pok Tryz.func206 chk206 ?_
 conv => whnf
 have e : l.all p = !l.any (fun q => !p q) := by
  rw [List.all_eq_not_any_not]
 rw [e]
 repeat' first | (refine zdp hi rfl ?_) | (intro t ht; cases t <;> conv => whnf)
 all_goals rw [ht]; exact fin rfl
theorem chk256 : chkFn Tryz.f256 = true := by kernel_rfl
theorem idx256 (l : List Int) (t : Bool) (f : FuncId) (first cap : List D) (p : Int → Bool) (hn : l.length ≤ 1000) (hf : ∀ q, q ∈ l → PC Pr G f (first ++ [iD q] ++ cap) (.bool (p q))) : PC Pr G 256 [intsD l t, .fn f first cap] (iD (idxI p l)) := by
 refine zak pok Tryz.func256 chk256 ?_
 conv => whnf
 skip
 refine zar pok (fun i => ⟨[(0, .d (intsD l t)), (1, .d (.fn f first cap)), (7, .d (iD (l.map fun k => [iD k]).length)), (8, .d (iD i))], [], 0⟩) (l.length) (fun i => ∀ q, q ∈ l.take i → p q = false) (by simp) ?_ (by kernel_rfl) ?_ ?_
 ·refine zad (by first | exact Nat.zero_le _ | exact Nat.le_of_ble_eq_true rfl) ?_ ?_ trivial
  ·repeat' first | exact trivial | refine ⟨⟨by first | rfl | assumption, rfl⟩, ?_⟩
  ·repeat' first | exact trivial | refine ⟨⟨ltB rfl, _, rfl, by first | rfl | assumption, by first | exact zaf rfl | exact zaa _ _ _ | exact zab rfl⟩, ?_⟩
 ·intro i A_i h_i I_i N_i
  have e_i : iadd .i64 (i : Int) 1 = ((i + 1 : Nat) : Int) := zai (by first | omega | (simp at *; omega))
  have hq := hf l[i] (List.getElem_mem h_i)
  conv => whnf
  repeat' first | ((first | refine LookP.mk _ (by first | rfl | exact get_i h_i) ?_ | refine And.intro (by first | assumption | exact ⟨by kernel_rfl, rfl⟩ | decide | omega) ?_ | rw [za1] | refine zel hq rfl ?_); conv => whnf) | (intro t ht; cases t <;> conv => whnf)
  ·exfalso; simp at ht; omega
  ·refine N_i _ ?_ ?_
   ·exact zjk h_i ht I_i
   ·refine zad (by first | exact Nat.zero_le _ | exact Nat.le_of_ble_eq_true rfl) ?_ ?_ trivial
    ·repeat' first | exact trivial | refine ⟨⟨by first | rfl | assumption | exact congrArg (fun n => AV.d (iD n)) e_i, rfl⟩, ?_⟩
    ·repeat' first | exact trivial | refine ⟨⟨ltB rfl, _, rfl, by first | rfl | assumption, by first | exact zaf rfl | exact zaa _ _ _ | exact zab rfl⟩, ?_⟩
  ·refine fin ?_
   rw [zfc h_i ht I_i]
 ·intro A_last I_last
  conv => whnf
  repeat' first | ((first | refine And.intro (by first | assumption | exact ⟨by kernel_rfl, rfl⟩ | decide | omega) ?_ | fail); conv => whnf) | (intro t ht; cases t <;> conv => whnf)
  ·rw [List.take_length] at I_last
   rw [zfd I_last]; exact fin rfl
  ·exfalso; simp at ht
theorem chk209 : chkFn Tryz.f209 = true := by kernel_rfl
theorem has209 (l : List Int) (t : Bool) (f : FuncId) (first cap : List D) (p : Int → Bool) (hn : l.length ≤ 1000) (hf : ∀ q, q ∈ l → PC Pr G f (first ++ [iD q] ++ cap) (.bool (p q))) : PC Pr G 209 [intsD l t, .fn f first cap] (.bool (l.any p)) := by
 have hi := idx256 l t f first cap p hn hf
 rw [← zmr]
 generalize idxI p l = i at hi ⊢
 refine zak pok Tryz.func209 chk209 ?_
 conv => whnf
 repeat' first | (refine zaj hi ?_; conv => whnf) | (intro t ht; cases t <;> conv => whnf)
 all_goals rw [ht]; exact fin rfl
theorem chk272 : chkFn Tryz.f272 = true := by kernel_rfl
theorem ev272 (q : Int) (f : FuncId) (first cap : List D) (b : Bool) (hf : PC Pr G f (first ++ [iD q] ++ cap) (.bool b)) : PC Pr G 272 [iD q, .rop [.fn f first cap] 0] (.bool (!b)) := by
 refine zak pok Tryz.func272 chk272 ?_
 conv => whnf
 repeat' first | ((first | rw [za1] | refine zel hf rfl ?_); conv => whnf) | (intro t ht; cases t <;> conv => whnf)
 all_goals rw [ht]; exact fin rfl
theorem chk255 : chkFn Tryz.f255 = true := by kernel_rfl
theorem every255 (l : List Int) (t : Bool) (f : FuncId) (first cap : List D) (p : Int → Bool) (hn : l.length ≤ 1000) (hf : ∀ q, q ∈ l → PC Pr G f (first ++ [iD q] ++ cap) (.bool (p q))) : PC Pr G 255 [intsD l t, .fn f first cap] (.bool (l.all p)) := by
 have hi := has209 (G := G) l t 272 [] [.rop [.fn f first cap] 0] (fun q => !p q) hn fun q hq => ev272 q f first cap (p q) (hf q hq)
 refine zak pok Tryz.func255 chk255 ?_
 conv => whnf
 have e : l.all p = !l.any (fun q => !p q) := by
  rw [List.all_eq_not_any_not]
 rw [e]
 repeat' first | (refine zdp hi rfl ?_) | (intro t ht; cases t <;> conv => whnf)
 all_goals rw [ht]; exact fin rfl
end Go.Tz
namespace Go.Tz
open Go Go.AL Go.Proofs
variable {G : Nat → Option (List D)}
theorem fiI {a b : Int} (h : a = b) : AV.d (.int .i64 a) = AV.d (iD b) := by rw [h]
theorem fiB {a b : Bool} (h : a = b) : AV.d (.bool a) = AV.d (.bool b) := by rw [h]
def arI (k : Int) : Int := if (1 ≤ k ∧ k ≤ 8) ∨ k = 13 ∨ k = 14 then 1 else if 9 ≤ k ∧ k ≤ 11 then 2 else if k = 12 then 3 else 0
theorem ari1 {k : Int} (h : (1 ≤ k ∧ k ≤ 8) ∨ k = 13 ∨ k = 14) : arI k = 1 := by unfold arI; rw [if_pos h]
theorem ari2 {k : Int} (h : 9 ≤ k ∧ k ≤ 11) : arI k = 2 := by unfold arI; rw [if_neg (by omega), if_pos h]
theorem ari3 {k : Int} (h : k = 12) : arI k = 3 := by unfold arI; rw [if_neg (by omega), if_neg (by omega), if_pos h]
theorem ari0 {k : Int} (h : k < 1 ∨ k > 14) : arI k = 0 := by unfold arI; rw [if_neg (by omega), if_neg (by omega), if_neg (by omega)]
theorem chk159 : chkFn Tryz.f159 = true := by kernel_rfl
theorem ar159 (k : Int) : PC Pr G 159 [iD k] (iD (arI k)) := by
 refine zak pok Tryz.func159 chk159 ?_
 conv => whnf
 repeat' first | (intro t ht; cases t <;> conv => whnf)
 all_goals refine fin ?_
 all_goals refine fiI ?_
 all_goals simp at *
 all_goals first | exact (ari1 (by omega)).symm | exact (ari2 (by omega)).symm | exact (ari3 (by omega)).symm | exact (ari0 (by omega)).symm
def dupAt (ws : List Int) (i : Nat) : Bool := match ws[i]? with
 | some n => decide (n ∈ ws.take i)
 | none => false
def dupB (ws : List Int) : Bool := (List.range ws.length).any (dupAt ws)
theorem zm2 {ws : List Int} {i : Nat} (h : i < ws.length) : dupAt ws i = decide (ws[i] ∈ ws.take i) := by
 unfold dupAt; rw [List.getElem?_eq_getElem h]
theorem dupB_of {ws : List Int} {i : Nat} (h : i < ws.length) (h1 : dupAt ws i = true) : dupB ws = true := List.any_eq_true.2 ⟨i, List.mem_range.2 h, h1⟩
theorem zxu {ws : List Int} (h : ∀ j, j < ws.length → dupAt ws j = false) : dupB ws = false := List.any_eq_false.2 fun j hj => by rw [h j (List.mem_range.1 hj)]; simp
def outB (w : Int) (ws : List Int) : Bool := ws.any fun n => decide (n < 0 ∨ n ≥ w)
def bitE (g : Gt) (bits : Int) : Int := if g.i < 0 ∨ g.i > bits ∨ (g.k = 13 ∧ (g.b < 0 ∨ g.b ≥ bits)) then 1 else if ((g.k = 13 ∨ g.k = 14) ∧ g.i ≠ 0) ∨ (g.k ≠ 13 ∧ g.b ≠ 0) then 7 else 0
def gchk (g : Gt) (w bits : Int) : Int := if arI g.k = 0 then 3 else if (g.ws.length : Int) ≠ arI g.k then 2 else if outB w g.ws = true then 1 else if dupB g.ws = true then 5 else bitE g bits
theorem chk254 : chkFn Tryz.f254 = true := by kernel_rfl
theorem wire254 (n w b : Int) (gd : D) : PC Pr G 254 [iD n, .rop [iD w, iD b, gd, .nilf] 0] (.bool (!decide (n < 0 ∨ n ≥ w))) := by
 refine zak pok Tryz.func254 chk254 ?_
 conv => whnf
 repeat' first | (intro t ht; cases t <;> conv => whnf)
 all_goals refine fin ?_
 all_goals refine fiB ?_
 all_goals simp at *
 all_goals omega
theorem bitE1 {g : Gt} {bits : Int} (h : g.i < 0 ∨ g.i > bits ∨ (g.k = 13 ∧ (g.b < 0 ∨ g.b ≥ bits))) : bitE g bits = 1 := by unfold bitE; rw [if_pos h]
theorem bitE7 {g : Gt} {bits : Int} (h : ¬ (g.i < 0 ∨ g.i > bits ∨ (g.k = 13 ∧ (g.b < 0 ∨ g.b ≥ bits)))) (h2 : ((g.k = 13 ∨ g.k = 14) ∧ g.i ≠ 0) ∨ (g.k ≠ 13 ∧ g.b ≠ 0)) : bitE g bits = 7 := by unfold bitE; rw [if_neg h, if_pos h2]
theorem bitE0 {g : Gt} {bits : Int} (h : ¬ (g.i < 0 ∨ g.i > bits ∨ (g.k = 13 ∧ (g.b < 0 ∨ g.b ≥ bits)))) (h2 : ¬ (((g.k = 13 ∨ g.k = 14) ∧ g.i ≠ 0) ∨ (g.k ≠ 13 ∧ g.b ≠ 0))) : bitE g bits = 0 := by unfold bitE; rw [if_neg h, if_neg h2]
theorem ar_le {k : Int} (h : arI k ≠ 0) : k ≤ 14 := by
 refine Classical.byContradiction fun hn => h (ari0 (by omega))
end Go.Tz
namespace Go.Tz
open Go Go.AL Go.Proofs
variable {G : Nat → Option (List D)}
theorem all_out (w : Int) (ws : List Int) : (ws.all fun n => !decide (n < 0 ∨ n ≥ w)) = !outB w ws := by
 unfold outB; rw [List.not_any_eq_all_not]
theorem chk207 : chkFn Tryz.f207 = true := by kernel_rfl
theorem gate207 (g : Gt) (w bits : Int) (gd : D) (hn : g.ws.length ≤ 1000) : PC Pr G 207 [.agg [iD w, iD bits, gd, .nilf], g.d] (iD (gchk g w bits)) := by
 obtain ⟨k, ws, u, b, f⟩ := g
 have hn : ws.length ≤ 1000 := hn
 have h159 := ar159 (G := G) k
 have hev := every255 (G := G) ws u 254 [] [.rop [iD w, iD bits, gd, .nilf] 0] (fun n => !decide (n < 0 ∨ n ≥ w)) hn fun n _ => wire254 n w bits gd
 rw [all_out] at hev
 refine zak pok Tryz.func207 chk207 ?_
 conv => whnf
 repeat' first | ((first | refine LookP.mk _ rfl ?_ | refine zaj h159 ?_ | refine zaq h159 ?_); conv => whnf) | (refine zdp hev rfl ?_) | (refine HpP.force ?_; conv => whnf) | (intro t ht; cases t <;> conv => whnf)
 ·refine fin ?_
  rename_i hA hL
  have hA : arI k ≠ 0 := by simpa using hA
  have hL : (ws.length : Int) = arI k := by simpa using hL
  have : gchk ⟨k, ws, u, b, f⟩ w bits = 1 := by unfold gchk; rw [if_neg hA, if_neg (by simpa using hL), if_pos (by simpa using ht)]
  rw [this]
 ·rename_i hA hL
  have hA : arI k ≠ 0 := by simpa using hA
  have hL : (ws.length : Int) = arI k := by simpa using hL
  have hO : outB w ws = false := by simpa using ht
  refine zar pok (fun i => ⟨[(2, .ptr 0 4 0 0), (3, .ptr 1 4 0 0), (30, .d (intsD ws u)), (31, .d (iD (ws.map fun k => [iD k]).length)), (32, .d (iD i))], [(0, some (.arr 4 [[.d (iD w), .d (iD bits), .d gd, .d .nilf]])), (1, some (.arr 4 [[.d (iD k), .d (intsD ws u), .d (iD b), .d (iD f)]]))], 2⟩) (ws.length) (fun i => ∀ j, j < i → dupAt ws j = false) (by omega) ?_ (by kernel_rfl) ?_ ?_
  ·refine zad (by first | exact Nat.zero_le _ | exact Nat.le_of_ble_eq_true rfl) ?_ ?_ trivial
   ·repeat' first | exact trivial | refine ⟨⟨by first | rfl | assumption, rfl⟩, ?_⟩
   ·repeat' first | exact trivial | refine ⟨⟨ltB rfl, _, rfl, by first | rfl | assumption, by first | exact zaf rfl | exact zaa _ _ _ | exact zab rfl⟩, ?_⟩
  ·intro i A_i h_i I_i N_i
   have e_i : iadd .i64 (i : Int) 1 = ((i + 1 : Nat) : Int) := zai (by first | omega | (simp at *; omega))
   have hm : ∀ t, PC Pr G 25 [.sl (List.take ((i : Int).toNat - 0) (List.drop 0 (ws.map fun k => [iD k]))) t, iD ws[i]] (.bool (dupAt ws i)) := by
    intro t
    rw [Nat.sub_zero, List.drop_zero, Int.toNat_natCast, ← List.map_take, zm2 h_i]
    exact has25 (G := G) (ws.take i) t ws[i] (by simp; omega)
   conv => whnf
   repeat (refine LookP.mk _ rfl ?_; conv => whnf)
   intro t ht
   cases t
   ·exfalso; first | (simp at ht; done) | (simp at ht; omega)
   conv => whnf
   repeat' first | ((first | refine LookP.mk _ (by first | rfl | exact get_i h_i) ?_ | refine And.intro (by first | exact ⟨Nat.zero_le _, by simp; omega, by simp⟩ | assumption | exact ⟨by kernel_rfl, rfl⟩ | decide | omega) ?_ | fail); conv => whnf) | (refine zme ((hm _)) ?_) | (intro t ht; cases t <;> conv => whnf)
   ·refine N_i _ ?_ ?_
    ·(intro j hj; rcases Nat.lt_or_ge j i with q | q; exact I_i j q; rw [show j = i by omega]; exact ht)
    ·refine zad (by first | exact Nat.zero_le _ | exact Nat.le_of_ble_eq_true rfl) ?_ ?_ trivial
     ·repeat' first | exact trivial | refine ⟨⟨by first | rfl | assumption | exact congrArg (fun n => AV.d (iD n)) e_i, rfl⟩, ?_⟩
     ·repeat' first | exact trivial | refine ⟨⟨ltB rfl, _, rfl, by first | rfl | assumption, by first | exact zaf rfl | exact zaa _ _ _ | exact zab rfl⟩, ?_⟩
   ·refine fin ?_
    have : gchk ⟨k, ws, u, b, f⟩ w bits = 5 := by unfold gchk; rw [if_neg hA, if_neg (by simpa using hL), if_neg (by rw [hO]; simp), if_pos (dupB_of h_i ht)]
    rw [this]
  ·intro A_last I_last
   have hD := zxu I_last
   have hg : gchk ⟨k, ws, u, b, f⟩ w bits = bitE ⟨k, ws, u, b, f⟩ bits := by unfold gchk; rw [if_neg hA, if_neg (by simpa using hL), if_neg (by rw [hO]; simp), if_neg (by rw [hD]; simp)]
   rw [hg]
   have hk := ar_le hA
   conv => whnf
   repeat (refine LookP.mk _ rfl ?_; conv => whnf)
   intro t ht
   cases t
   rotate_left
   ·exfalso; first | (simp at ht; done) | (simp at ht; omega)
   conv => whnf
   repeat' first | (refine LookP.mk _ rfl ?_; conv => whnf) | (intro t ht; cases t <;> conv => whnf)
   all_goals refine fin ?_
   all_goals refine fiI ?_
   all_goals simp at *
   all_goals first | exact (bitE1 (by dsimp only; omega)).symm | exact (bitE7 (by dsimp only; omega) (by dsimp only; omega)).symm | exact (bitE0 (by dsimp only; omega) (by dsimp only; omega)).symm
 ·refine fin ?_
  rename_i hA
  have hA : arI k ≠ 0 := by simpa using hA
  have : gchk ⟨k, ws, u, b, f⟩ w bits = 2 := by unfold gchk; rw [if_neg hA, if_pos (by simpa using ht)]
  rw [this]
 ·refine fin ?_
  have : gchk ⟨k, ws, u, b, f⟩ w bits = 3 := by unfold gchk; rw [if_pos (by simpa using ht)]
  rw [this]
theorem find_atG {α : Type} {l : List α} {p : α → Bool} {i : Nat} (h : i < l.length) (hz : ∀ q, q ∈ l.take i → p q = false) (hp : p l[i] = true) : l.find? p = some l[i] := by
 rw [List.find?_eq_some_iff_getElem]
 refine ⟨hp, i, h, rfl, fun j hj => ?_⟩
 rw [hz _ (List.mem_take_iff_getElem.2 ⟨j, by omega, rfl⟩)]; rfl
def cchk (w bits : Int) (l : List Gt) : Int := if w < 1 ∨ w > 12 ∨ bits < 0 ∨ bits > 8 then 3 else if l.length > 120 then 2 else match l.find? (fun g => decide (gchk g w bits ≠ 0)) with
 | some g => gchk g w bits
 | none => 0
theorem cchk3 {w bits : Int} {l : List Gt} (h : w < 1 ∨ w > 12 ∨ bits < 0 ∨ bits > 8) : cchk w bits l = 3 := by unfold cchk; rw [if_pos h]
theorem cchk2 {w bits : Int} {l : List Gt} (h : ¬ (w < 1 ∨ w > 12 ∨ bits < 0 ∨ bits > 8)) (h2 : l.length > 120) : cchk w bits l = 2 := by unfold cchk; rw [if_neg h, if_pos h2]
theorem zx7 {w bits : Int} {l : List Gt} (h : ¬ (w < 1 ∨ w > 12 ∨ bits < 0 ∨ bits > 8)) (h2 : ¬ l.length > 120) {i : Nat} (hi : i < l.length) (h3 : ∀ g, g ∈ l.take i → gchk g w bits = 0) (h4 : gchk l[i] w bits ≠ 0) : cchk w bits l = gchk l[i] w bits := by
 unfold cchk
 rw [if_neg h, if_neg h2, find_atG (p := fun g => decide (gchk g w bits ≠ 0)) hi (fun q hq => by simp [h3 q hq]) (by simpa using h4)]
theorem cchk0 {w bits : Int} {l : List Gt} (h : ¬ (w < 1 ∨ w > 12 ∨ bits < 0 ∨ bits > 8)) (h2 : ¬ l.length > 120) (h3 : ∀ g, g ∈ l → gchk g w bits = 0) : cchk w bits l = 0 := by
 unfold cchk
 rw [if_neg h, if_neg h2, List.find?_eq_none.2 (by intro q hq; simp [h3 q hq])]
theorem cchk_ok {w bits : Int} {l : List Gt} (h : cchk w bits l = 0) : (1 ≤ w ∧ w ≤ 12) ∧ (0 ≤ bits ∧ bits ≤ 8) ∧ l.length ≤ 120 ∧ ∀ g, g ∈ l → gchk g w bits = 0 := by
 by_cases h1 : w < 1 ∨ w > 12 ∨ bits < 0 ∨ bits > 8
 ·rw [cchk3 h1] at h; cases h
 ·by_cases h2 : l.length > 120
  ·rw [cchk2 h1 h2] at h; cases h
  ·refine ⟨by omega, by omega, by omega, fun g hg => ?_⟩
   unfold cchk at h
   rw [if_neg h1, if_neg h2] at h
   cases e : l.find? (fun g => decide (gchk g w bits ≠ 0)) with
   | none =>
    have := List.find?_eq_none.1 e g hg
    simpa using this
   | some x =>
    have h5 := List.find?_some e
    rw [e] at h
    simp only [ne_eq, decide_not, Bool.not_eq_eq_eq_not, Bool.not_true, decide_eq_false_iff_not] at h5
    exact absurd h h5
theorem chk129 : chkFn Tryz.f129 = true := by kernel_rfl
theorem zs3 (w bits : Int) (l : List Gt) (t : Bool) (hn : l.length ≤ 1000) (hws : ∀ g, g ∈ l → g.ws.length ≤ 1000) : PC Pr G 129 [circD w bits l t] (iD (cchk w bits l)) := by
 refine zak pok Tryz.func129 chk129 ?_
 conv => whnf
 repeat' first | (refine LookP.mk _ rfl ?_; conv => whnf) | (intro t ht; cases t <;> conv => whnf)
 ·have hR : ¬ (w < 1 ∨ w > 12 ∨ bits < 0 ∨ bits > 8) := by simp at *; omega
  have hL : ¬ l.length > 120 := by simp at ht; omega
  refine zar pok (fun i => ⟨[(3, .d (.fn 207 [.agg [iD w, iD bits, gatesD l t, .nilf]] [])), (35, .d (gatesD l t)), (36, .d (iD (l.map Gt.l).length)), (37, .d (iD i))], [], 0⟩) (l.length) (fun i => ∀ g, g ∈ l.take i → gchk g w bits = 0) (by simp) ?_ (by kernel_rfl) ?_ ?_
  ·refine zad (by first | exact Nat.zero_le _ | exact Nat.le_of_ble_eq_true rfl) ?_ ?_ trivial
   ·repeat' first | exact trivial | refine ⟨⟨by first | rfl | assumption, rfl⟩, ?_⟩
   ·repeat' first | exact trivial | refine ⟨⟨ltB rfl, _, rfl, by first | rfl | assumption, by first | exact zaf rfl | exact zaa _ _ _ | exact zab rfl⟩, ?_⟩
  ·intro i A_i h_i I_i N_i
   have e_i : iadd .i64 (i : Int) 1 = ((i + 1 : Nat) : Int) := zai (by first | omega | (simp at *; omega))
   have hc := gate207 (G := G) l[i] w bits (gatesD l t) (hws _ (List.getElem_mem h_i))
   have hst : gchk l[i] w bits = 0 → ∀ g, g ∈ l.take (i + 1) → gchk g w bits = 0 := fun h g hg => by
    rw [zbr h_i, List.mem_append, List.mem_singleton] at hg
    rcases hg with q | q
    ·exact I_i g q
    ·rw [q]; exact h
   have hat := zx7 hR hL h_i I_i
   generalize gchk l[i] w bits = e at hc hst hat
   conv => whnf
   repeat (refine LookP.mk _ rfl ?_; conv => whnf)
   intro t ht
   cases t
   ·exfalso; first | (simp at ht; done) | (simp at ht; omega)
   conv => whnf
   repeat' first | ((first | refine LookP.mk _ (by first | rfl | exact get_g h_i) ?_ | refine ShlP.mk _ (by first | (simp only [List.set, over, List.take, List.drop, List.append_eq, List.nil_append, List.cons_append, List.length]; rfl) | rfl) ?_ | refine And.intro (by first | assumption | exact ⟨by kernel_rfl, rfl⟩ | decide | omega) ?_ | refine zaj hc ?_ | refine HpP.force ?_); conv => whnf) | (intro t ht; cases t <;> conv => whnf)
   ·refine N_i _ ?_ ?_
    ·exact hst (by simpa using ht)
    ·refine zad (by first | exact Nat.zero_le _ | exact Nat.le_of_ble_eq_true rfl) ?_ ?_ trivial
     ·repeat' first | exact trivial | refine ⟨⟨by first | rfl | assumption | exact congrArg (fun n => AV.d (iD n)) e_i, rfl⟩, ?_⟩
     ·repeat' first | exact trivial | refine ⟨⟨ltB rfl, _, rfl, by first | rfl | assumption, by first | exact zaf rfl | exact zaa _ _ _ | exact zab rfl⟩, ?_⟩
   ·refine fin ?_
    rw [hat (by simpa using ht)]
  ·intro A_last I_last
   rw [List.take_length] at I_last
   conv => whnf
   repeat (refine LookP.mk _ rfl ?_; conv => whnf)
   intro t ht
   cases t
   rotate_left
   ·exfalso; first | (simp at ht; done) | (simp at ht; omega)
   conv => whnf
   skip
   refine fin ?_
   rw [cchk0 hR hL I_last]
 all_goals refine fin ?_
 all_goals refine fiI ?_
 all_goals simp at *
 all_goals first | exact (cchk3 (by omega)).symm | exact (cchk2 (by omega) (by omega)).symm
end Go.Tz
namespace Go.Tz
open Go Go.AL Go.Proofs Go.Ma
variable {G : Nat → Option (List D)}
def Gt.own (g : Gt) : Gt := { g with u := false }
theorem asD_agg3 {H : AHeap} {v1 v2 v3 : AV} {d1 d2 d3 : D} (h1 : AsD H v1 d1) (h2 : AsD H v2 d2) (h3 : AsD H v3 d3) : AsD H (.agg [v1, v2, v3]) (.agg [d1, d2, d3]) := by
 refine .agg _ _ rfl fun j v d hv hd => ?_
 match j, hv, hd with
 | 0, hv, hd => simp at hv hd; subst hv hd; exact h1
 | 1, hv, hd => simp at hv hd; subst hv hd; exact h2
 | 2, hv, hd => simp at hv hd; subst hv hd; exact h3
 | j + 3, hv, _ => simp at hv
end Go.Tz
namespace Go.Tz
open Go Go.AL Go.Proofs Go.Ma
variable {G : Nat → Option (List D)}
def minS (q : Ps) : Ps := ⟨q.w, q.x, q.z, (iadd .i64 q.p 2).tmod 4⟩
theorem chk258 : chkFn Tryz.f258 = true := by kernel_rfl
theorem zmk (q : Ps) : PC Pr G 258 [q.d] (minS q).d := by
 refine zak pok Tryz.func258 chk258 ?_
 conv => whnf
 repeat' first | ((first | refine LookP.mk _ rfl ?_ | refine ShlP.mk _ (by first | (simp only [List.set, over, List.take, List.drop, List.append_eq, List.nil_append, List.cons_append, List.length]; rfl) | rfl) ?_ | refine And.intro (by first | assumption | exact ⟨by kernel_rfl, rfl⟩ | decide | omega) ?_ | refine HpP.force ?_); conv => whnf)
 exact fin rfl
theorem chk214 : chkFn Tryz.f214 = true := by kernel_rfl
def im1 (w a k : Nat) : Ps × Ps := match k with
 | 1 => (oneS w a 1, minS (oneS w a 3))
 | 2 => (minS (oneS w a 1), minS (oneS w a 3))
 | 3 => (minS (oneS w a 1), oneS w a 3)
 | 4 => (oneS w a 3, oneS w a 1)
 | 5 => (oneS w a 2, oneS w a 3)
 | _ => (minS (oneS w a 2), oneS w a 3)
def im2 (w n c k : Nat) (z : Bool) : Ps × Ps := match k with
 | 9 => match z with
  | true => (timS (oneS w n 1) (oneS w c 1), oneS w n 3)
  | false => (oneS w n 1, timS (oneS w c 3) (oneS w n 3))
 | 10 => (timS (oneS w n 1) (oneS w c 3), oneS w n 3)
 | _ => (oneS w c 1, oneS w c 3)
theorem one_w (w n l : Int) : (oneS w n l).w = w := rfl
theorem zqr {α : Type} [BEq α] [ReflBEq α] {a : α} {k : Bool → Prop} (h : k true) : ∀ t, (a == a) = t → k t := fun t e => by
 have e2 : true = t := (beq_self_eq_true a).symm.trans e
 exact e2 ▸ h
theorem zqs {a b : Int} {k : Bool → Prop} (hne : decide (a = b) = false) (h : k false) : ∀ t, (a == b) = t → k t := fun t e => by
 have hne : a ≠ b := of_decide_eq_false hne
 have e2 : false = t := (beq_false_of_ne hne).symm.trans e
 exact e2 ▸ h
theorem images1 {w a k : Nat} {K : Int} (hK : K = k) (h1 : 1 ≤ k) (h2 : k ≤ 6) (u : Bool) (b i : Int) : PC Pr G 214 [iD w, (Gt.mk K [(a : Int)] u b i).d, iD 0] (.tup [(im1 w a k).1.d, (im1 w a k).2.d]) := by
 have g1 := zf4 (G := G) w a 1 (Int.natCast_nonneg _)
 have g2 := zf4 (G := G) w a 2 (Int.natCast_nonneg _)
 have g3 := zf4 (G := G) w a 3 (Int.natCast_nonneg _)
 have hk : k = 1 ∨ k = 2 ∨ k = 3 ∨ k = 4 ∨ k = 5 ∨ k = 6 := by omega
 rcases hk with rfl | rfl | rfl | rfl | rfl | rfl
 all_goals first | obtain rfl : K = 1 := hK | obtain rfl : K = 2 := hK | obtain rfl : K = 3 := hK | obtain rfl : K = 4 := hK | obtain rfl : K = 5 := hK | obtain rfl : K = 6 := hK
 all_goals
  simp only [im1]
  generalize oneS w a 1 = q1 at g1 ⊢
  generalize oneS w a 2 = q2 at g2 ⊢
  generalize oneS w a 3 = q3 at g3 ⊢
  have m1 := zmk (G := G) q1
  have m2 := zmk (G := G) q2
  have m3 := zmk (G := G) q3
  refine zak pok Tryz.func214 chk214 ?_
  conv => whnf
  repeat' first | ((first | refine LookP.mk _ rfl ?_ | refine ShlP.mk _ (by first | (simp only [List.set, over, List.take, List.drop, List.append_eq, List.nil_append, List.cons_append, List.length]; rfl) | rfl) ?_ | refine And.intro (by first | exact of_decide_eq_true (by kernel_rfl) | assumption | exact ⟨by kernel_rfl, rfl⟩ | decide | omega) ?_ | refine zqr ?_ | refine zqs rfl ?_ | refine zaj g1 ?_ | refine zaj g2 ?_ | refine zaj g3 ?_ | refine zaq m1 ?_ | refine zaq m2 ?_ | refine zaq m3 ?_ | refine HpP.force ?_); conv => whnf)
  all_goals first | (exfalso; simp at ht; done) | exact fin rfl
theorem zw5 {w n c k : Nat} (hw : 1 ≤ w ∧ w ≤ 12) {K : Int} (hK : K = k) (h1 : 9 ≤ k) (h2 : k ≤ 11) (z : Bool) (u : Bool) (b i : Int) : PC Pr G 214 [iD w, (Gt.mk K [if z then (n : Int) else c, if z then (c : Int) else n] u b i).d, iD (if z then 0 else 1)] (.tup [(im2 w n c k z).1.d, (im2 w n c k z).2.d]) := by
 have g1 := zf4 (G := G) w n 1 (Int.natCast_nonneg _)
 have g2 := zf4 (G := G) w n 2 (Int.natCast_nonneg _)
 have g3 := zf4 (G := G) w n 3 (Int.natCast_nonneg _)
 have c1 := zf4 (G := G) w c 1 (Int.natCast_nonneg _)
 have c3 := zf4 (G := G) w c 3 (Int.natCast_nonneg _)
 have w1 := one_w w n 1
 have w2 := one_w w c 3
 have hk : k = 9 ∨ k = 10 ∨ k = 11 := by omega
 rcases hk with rfl | rfl | rfl
 all_goals first | obtain rfl : K = 9 := hK | obtain rfl : K = 10 := hK | obtain rfl : K = 11 := hK
 all_goals cases z
 all_goals
  simp only [im2]
  generalize oneS w n 1 = q1 at g1 w1 ⊢
  generalize oneS w n 2 = q2 at g2 ⊢
  generalize oneS w n 3 = q3 at g3 ⊢
  generalize oneS w c 1 = r1 at c1 ⊢
  generalize oneS w c 3 = r3 at c3 w2 ⊢
  refine zak pok Tryz.func214 chk214 ?_
  conv => whnf
  repeat' first | ((first | refine LookP.mk _ rfl ?_ | refine ShlP.mk _ (by first | (simp only [List.set, over, List.take, List.drop, List.append_eq, List.nil_append, List.cons_append, List.length]; rfl) | rfl) ?_ | refine And.intro (by first | exact of_decide_eq_true (by kernel_rfl) | assumption | exact ⟨by kernel_rfl, rfl⟩ | decide | omega) ?_ | refine zqr ?_ | refine zqs rfl ?_ | refine zaj g1 ?_ | refine zaj g2 ?_ | refine zaj g3 ?_ | refine zaj c1 ?_ | refine zaq c1 ?_ | refine zaj c3 ?_ | refine zaq c3 ?_ | refine zaq (zk8 q1 [r1] true ⟨by omega, by omega⟩ (by simp)) ?_ | refine zaq (zk8 q1 [r3] true ⟨by omega, by omega⟩ (by simp)) ?_ | refine zaq (zk8 r3 [q3] true ⟨by omega, by omega⟩ (by simp)) ?_ | refine HpP.force ?_); conv => whnf)
  all_goals first | (exfalso; simp at ht; done) | exact fin rfl | skip
end Go.Tz
namespace Go.Tz
open Go Go.AL Go.Proofs Go.Ma
variable {G : Nat → Option (List D)}
def addP (c : Int) (q : Ps) : Ps := ⟨q.w, q.x, q.z, (iadd .i64 q.p c).tmod 4⟩
theorem zyl {w : Nat} {q : Ps} (c : Nat) (hc : c ≤ 100) (h : Vl w q) : nf (addP c q) = esh c (nf q) ∧ Vl w (addP c q) := by
 obtain ⟨X, Z, P, rfl, h1, h2, h3⟩ := h
 have e : addP c (mk w X Z P) = mk w X Z ((P + c) % 4) := by
  unfold addP mk
  dsimp only
  rw [zai (by omega)]
  rfl
 rw [e]
 refine ⟨?_, ⟨X, Z, _, rfl, h1, h2, Nat.mod_lt _ (by decide)⟩⟩
 rw [zbz, zbz]
 refine zct ?_ rfl
 simp only [esh]; omega
theorem zwq {w : Nat} {q : Ps} (h : Vl w q) : nf (minS q) = esh 2 (nf q) ∧ Vl w (minS q) := zyl 2 (by decide) h
theorem zjj {w : Nat} (hw : w ≤ 12) {q r : Ps} (hq : Vl w q) (hr : Vl w r) : nf (timS q r) = emul (nf q) (nf r) ∧ Vl w (timS q r) := by
 rw [zpg hw hq hr]
 exact ⟨zdg hw hq hr, zd1 hw hq hr⟩
theorem zp0 {w n : Nat} (hw : w ≤ 12) (hn : n < w) : nf (oneS w n 1) = eL n true false ∧ Vl w (oneS w n 1) := ⟨zg2 (l := 1) (by omega) (by decide), zr1 (l := 1) hn hw⟩
theorem one_nf2 {w n : Nat} (hw : w ≤ 12) (hn : n < w) : nf (oneS w n 2) = eL n true true ∧ Vl w (oneS w n 2) := ⟨zg2 (l := 2) (by omega) (by decide), zr1 (l := 2) hn hw⟩
theorem zpz {w n : Nat} (hw : w ≤ 12) (hn : n < w) : nf (oneS w n 3) = eL n false true ∧ Vl w (oneS w n 3) := ⟨zg2 (l := 3) (by omega) (by decide), zr1 (l := 3) hn hw⟩
theorem im1_nf {w a k b : Nat} (hw : w ≤ 12) (h1 : 1 ≤ k) (h2 : k ≤ 6) (ha : a < w) : (nf (im1 w a k).1 = gE k a b (eL a true false) ∧ Vl w (im1 w a k).1) ∧ nf (im1 w a k).2 = gE k a b (eL a false true) ∧ Vl w (im1 w a k).2 := by
 have hk : k = 1 ∨ k = 2 ∨ k = 3 ∨ k = 4 ∨ k = 5 ∨ k = 6 := by omega
 obtain ⟨a1, a2⟩ := zp0 hw ha
 obtain ⟨b1, b2⟩ := one_nf2 hw ha
 obtain ⟨c1, c2⟩ := zpz hw ha
 obtain ⟨d1, d2⟩ := zwq a2
 obtain ⟨e1, e2⟩ := zwq b2
 obtain ⟨f1, f2⟩ := zwq c2
 have h0 : ∀ x z, esh 0 (eL a x z) = eL a x z := fun x z => esh_4 rfl (eL_lt _ _ _)
 rw [zxj h1 h2 (by omega), zxj h1 h2 (by omega)]
 rcases hk with rfl | rfl | rfl | rfl | rfl | rfl
 ·exact ⟨⟨a1.trans (h0 _ _).symm, a2⟩, f1.trans (by rw [c1]; rfl), f2⟩
 ·exact ⟨⟨d1.trans (by rw [a1]; rfl), d2⟩, f1.trans (by rw [c1]; rfl), f2⟩
 ·exact ⟨⟨d1.trans (by rw [a1]; rfl), d2⟩, c1.trans (h0 _ _).symm, c2⟩
 ·exact ⟨⟨c1.trans (h0 _ _).symm, c2⟩, a1.trans (h0 _ _).symm, a2⟩
 ·exact ⟨⟨b1.trans (h0 _ _).symm, b2⟩, c1.trans (h0 _ _).symm, c2⟩
 ·exact ⟨⟨e1.trans (by rw [b1]; rfl), e2⟩, c1.trans (h0 _ _).symm, c2⟩
theorem im2_nf {w a b k : Nat} (hw : w ≤ 12) (h1 : 9 ≤ k) (h2 : k ≤ 11) (ha : a < w) (hb : b < w) (hab : a ≠ b) :
  ((nf (im2 w a b k true).1 = gE k a b (eL a true false) ∧ Vl w (im2 w a b k true).1) ∧ nf (im2 w a b k true).2 = gE k a b (eL a false true) ∧ Vl w (im2 w a b k true).2) ∧
  (nf (im2 w b a k false).1 = gE k a b (eL b true false) ∧ Vl w (im2 w b a k false).1) ∧ nf (im2 w b a k false).2 = gE k a b (eL b false true) ∧ Vl w (im2 w b a k false).2 := by
 have hk : k = 9 ∨ k = 10 ∨ k = 11 := by omega
 obtain ⟨a1, a2⟩ := zp0 hw ha
 obtain ⟨c1, c2⟩ := zpz hw ha
 obtain ⟨a1', a2'⟩ := zp0 hw hb
 obtain ⟨c1', c2'⟩ := zpz hw hb
 obtain ⟨t1, t2, t3, t4, t5, t6, t7, t8, t9, t10, t11, t12⟩ := gE_tab2 (a := a) (b := b) (by omega) (by omega) hab
 rcases hk with rfl | rfl | rfl
 ·obtain ⟨d1, d2⟩ := zjj hw a2 a2'
  obtain ⟨e1, e2⟩ := zjj hw c2 c2'
  rw [t1, t2, t3, t4]
  exact ⟨⟨⟨d1.trans (by rw [a1, a1']), d2⟩, c1, c2⟩, ⟨a1', a2'⟩, e1.trans (by rw [c1, c1']), e2⟩
 ·obtain ⟨d1, d2⟩ := zjj hw a2 c2'
  obtain ⟨e1, e2⟩ := zjj hw a2' c2
  rw [t5, t6, t7, t8]
  exact ⟨⟨⟨d1.trans (by rw [a1, c1']), d2⟩, c1, c2⟩, ⟨e1.trans (by rw [a1', c1]), e2⟩, c1', c2'⟩
 ·rw [t9, t10, t11, t12]
  exact ⟨⟨⟨a1', a2'⟩, c1', c2'⟩, ⟨a1, a2⟩, c1, c2⟩
def wsOf (k a b : Nat) : List Int := if k ≤ 6 then [(a : Int)] else [(a : Int), (b : Int)]
def imgS (w k a b n l : Nat) : Ps := dec w (gE k a b (eL n (decide (l = 1) || decide (l = 2)) (decide (l = 2) || decide (l = 3))))
theorem eL_hi {w n j : Nat} (hw : w ≤ 12) (hn : n < w) (x z : Bool) (hj : (w ≤ j ∧ j < 12) ∨ 12 + w ≤ j) : (eL n x z).2.testBit j = false := by
 simp only [eL, Nat.testBit_xor, zho, Nat.testBit_two_pow]
 rw [decide_eq_false (show ¬ n = j by omega), decide_eq_false (show ¬ 12 + n = j by omega)]; simp
theorem img_vl {w k a b n l : Nat} (hw : w ≤ 12) (h : gR w k a b) (hn : n < w) : Vl w (imgS w k a b n l) :=
 dec_vl hw fun j hj => zqe (zom hw h) (w := w) (by unfold gR at h; omega) (by unfold gR at h; omega) hj (eL_hi hw hn _ _ hj)
theorem zsg {w k a b n l : Nat} (hw : w ≤ 12) (h : gR w k a b) (hn : n < w) {r : Ps} (hr : Vl w r) (e : nf r = gE k a b (eL n (decide (l = 1) || decide (l = 2)) (decide (l = 2) || decide (l = 3)))) : r = imgS w k a b n l :=
 zod hw hr (img_vl hw h hn) (by rw [e]; exact (zr3 w (zuf _ _ _ _)).symm)
theorem img_by {w k a b n : Nat} (hw : w ≤ 12) (h : gR w k a b) (hn : n < w) {px pz : Ps} (hx : nf px = gE k a b (eL n true false) ∧ Vl w px) (hz : nf pz = gE k a b (eL n false true) ∧ Vl w pz) :
  px = imgS w k a b n 1 ∧ pz = imgS w k a b n 3 ∧ addP 1 (timS px pz) = imgS w k a b n 2 := by
 refine ⟨zsg hw h hn hx.2 hx.1, zsg hw h hn hz.2 hz.1, ?_⟩
 obtain ⟨t1, t2⟩ := zjj hw hx.2 hz.2
 obtain ⟨s1, s2⟩ := zyl 1 (by decide) t2
 refine zsg hw h hn s2 (s1.trans ?_)
 rw [t1, hx.1, hz.1, ← zii (zom hw h), ← gE_esh]
 have := eL_mul (n := n) (by omega) true true
 show gE k a b _ = gE k a b (eL n true true)
 rw [this]; rfl
theorem img_out {w k a b n l : Nat} (hw : w ≤ 12) (h : gR w k a b) (hn : n < w) (hl : l ≤ 3) (hna : n ≠ a) (hnb : 9 ≤ k → n ≠ b) : oneS w n l = imgS w k a b n l := by
 refine zsg hw h hn (zr1 hn hw) ?_
 rw [zg2 (by omega) hl, gE_other (zom hw h) (by omega) hna hnb]
theorem chk213 : chkFn Tryz.f213 = true := by kernel_rfl
theorem zl2 (q r : Ps) (hw : 0 ≤ q.w ∧ q.w ≤ 24) : PC Pr G 142 [q.d, rowsD [r] true] (timS q r).d := zk8 q [r] true hw (by simp)
theorem does213w {w n l : Nat} {q : Ps} {K : Int} {ws : List Int} {u : Bool} {b i : Int} {j : Int} {px pz : Ps} (hw : 1 ≤ w ∧ w ≤ 12) (hq : q.w = w) (hl : l = 1 ∨ l = 2 ∨ l = 3) (hws : ws.length ≤ 1000) (hj : idxI (fun k => decide ((n : Int) = k) ) ws = j) (hj0 : 0 ≤ j) (hpx : Vl w px)
  (hi : PC Pr G 214 [iD w, (Gt.mk K ws u b i).d, iD j] (.tup [px.d, pz.d])) : PC Pr G 213 [iD n, iD l, .rop (Gt.mk K ws u b i).l 0, .rop q.l 0] (if l = 1 then px else if l = 3 then pz else addP 1 (timS px pz)).d := by
 obtain ⟨qw, qx, qz, qp⟩ := q
 obtain rfl : qw = w := hq
 have h99 := idx99 (G := G) ws u (n : Int) (by omega)
 rw [hj] at h99
 have htm := zl2 (G := G) px pz (by rw [vl_w hpx]; omega)
 generalize timS px pz = m at htm ⊢
 rcases hl with rfl | rfl | rfl
 all_goals
  refine zak pok Tryz.func213 chk213 ?_
  conv => whnf
  repeat' first | ((first | refine LookP.mk _ rfl ?_ | refine ShlP.mk _ (by first | (simp only [List.set, over, List.take, List.drop, List.append_eq, List.nil_append, List.cons_append, List.length]; rfl) | rfl) ?_ | refine And.intro (by first | assumption | exact ⟨by kernel_rfl, rfl⟩ | decide | omega) ?_ | refine zqr ?_ | refine zqs rfl ?_ | refine zaj h99 ?_ | refine zaj hi ?_ | refine zem (htm) rfl ?_ | refine HpP.force ?_); conv => whnf) | (intro t ht; cases t <;> conv => whnf)
  all_goals first | exact fin rfl | (exfalso; simp at ht; omega) | skip
end Go.Tz
namespace Go.Tz
open Go Go.AL Go.Proofs Go.Ma
variable {G : Nat → Option (List D)}
theorem does213o {w n l : Nat} {q : Ps} {K : Int} {ws : List Int} {u : Bool} {b i : Int} (hq : q.w = w) (hws : ws.length ≤ 1000) (hj : idxI (fun k => decide ((n : Int) = k)) ws = -1) :
  PC Pr G 213 [iD n, iD l, .rop (Gt.mk K ws u b i).l 0, .rop q.l 0] (oneS w n l).d := by
 obtain ⟨qw, qx, qz, qp⟩ := q
 obtain rfl : qw = w := hq
 have h99 := idx99 (G := G) ws u (n : Int) (by omega)
 rw [hj] at h99
 have h1 := zf4 (G := G) w n l (Int.natCast_nonneg _)
 generalize oneS w n l = m at h1 ⊢
 refine zak pok Tryz.func213 chk213 ?_
 conv => whnf
 repeat' first | ((first | refine LookP.mk _ rfl ?_ | refine ShlP.mk _ (by first | (simp only [List.set, over, List.take, List.drop, List.append_eq, List.nil_append, List.cons_append, List.length]; rfl) | rfl) ?_ | refine zaj h99 ?_ | refine zaj h1 ?_ | refine HpP.force ?_); conv => whnf) | (intro t ht; cases t <;> conv => whnf)
 all_goals first | exact fin rfl | (exfalso; simp at ht; done)
theorem zw6 (n a : Nat) : idxI (fun k => decide ((n : Int) = k)) [(a : Int)] = if n = a then 0 else -1 := by
 unfold idxI
 by_cases h : n = a
 ·simp [h]
 ·have : ¬ (n : Int) = a := by omega
  simp [h, this]
theorem zp8 (n a b : Nat) : idxI (fun k => decide ((n : Int) = k)) [(a : Int), (b : Int)] = if n = a then 0 else if n = b then 1 else -1 := by
 unfold idxI
 by_cases h : n = a
 ·simp [h, List.findIdx?_cons]
 ·have : ¬ (n : Int) = a := by omega
  by_cases h2 : n = b
  ·simp [h2, List.findIdx?_cons] at h this ⊢
   simp [h, this]
  ·have h3 : ¬ (n : Int) = b := by omega
   simp [h, h2, this, h3, List.findIdx?_cons]
theorem does213 {w k a b n l : Nat} {q : Ps} {K : Int} (hK : K = k) {u : Bool} {bb i : Int} (hw : 1 ≤ w ∧ w ≤ 12) (hg : gR w k a b) (hq : q.w = w) (hn : n < w) (hl : l = 1 ∨ l = 2 ∨ l = 3) :
  PC Pr G 213 [iD n, iD l, .rop (Gt.mk K (wsOf k a b) u bb i).l 0, .rop q.l 0] (imgS w k a b n l).d := by
 have key : ∀ {px pz : Ps} {ws : List Int} {j : Int}, ws.length ≤ 1000 → idxI (fun k => decide ((n : Int) = k)) ws = j → 0 ≤ j → (nf px = gE k a b (eL n true false) ∧ Vl w px) → (nf pz = gE k a b (eL n false true) ∧ Vl w pz) →
   PC Pr G 214 [iD w, (Gt.mk K ws u bb i).d, iD j] (.tup [px.d, pz.d]) → PC Pr G 213 [iD n, iD l, .rop (Gt.mk K ws u bb i).l 0, .rop q.l 0] (imgS w k a b n l).d := by
  intro px pz ws j h1 h2 h3 h4 h5 h6
  have h := does213w (u := u) (b := bb) (i := i) hw hq hl h1 h2 h3 h4.2 h6
  obtain ⟨e1, e2, e3⟩ := img_by hw.2 hg hn h4 h5
  rcases hl with rfl | rfl | rfl
  ·rw [if_pos rfl, e1] at h; exact h
  ·rw [if_neg (by decide), if_neg (by decide), e3] at h; exact h
  ·rw [if_neg (by decide), if_pos rfl, e2] at h; exact h
 have out : ∀ {ws : List Int}, ws.length ≤ 1000 → idxI (fun k => decide ((n : Int) = k)) ws = -1 → n ≠ a → (9 ≤ k → n ≠ b) → PC Pr G 213 [iD n, iD l, .rop (Gt.mk K ws u bb i).l 0, .rop q.l 0] (imgS w k a b n l).d := by
  intro ws h1 h2 h3 h4
  have h := does213o (G := G) (w := w) (n := n) (l := l) (K := K) (u := u) (b := bb) (i := i) hq h1 h2
  rw [img_out hw.2 hg hn (by omega) h3 h4] at h
  exact h
 rcases hg with ⟨k1, k2, ha⟩ | ⟨k1, k2, ha, hb, hab⟩
 ·have e : wsOf k a b = [(a : Int)] := if_pos k2
  rw [e]
  by_cases h : n = a
  ·subst h
   obtain ⟨i1, i2⟩ := im1_nf (b := b) hw.2 k1 k2 ha
   exact key (by simp) (by rw [zw6, if_pos rfl]) (Int.le_refl _) i1 i2 (images1 hK k1 k2 u bb i)
  ·exact out (by simp) (by rw [zw6, if_neg h]) h (by omega)
 ·have e : wsOf k a b = [(a : Int), (b : Int)] := if_neg (by omega)
  rw [e]
  obtain ⟨⟨i1, i2⟩, i3, i4⟩ := im2_nf hw.2 k1 k2 ha hb hab
  by_cases h : n = a
  ·subst h
   exact key (by simp) (by rw [zp8, if_pos rfl]) (Int.le_refl _) i1 i2 (zw5 hw hK k1 k2 true u bb i)
  ·by_cases h2 : n = b
   ·subst h2
    exact key (j := 1) (by simp) (by rw [zp8, if_neg h, if_pos rfl]) (by decide) i3 i4 (zw5 hw hK k1 k2 false u bb i)
   ·exact out (by simp) (by rw [zp8, if_neg h, if_neg h2]) h fun _ => h2
end Go.Tz
namespace Go.Tz
open Go Go.AL Go.Proofs Go.Ma
variable {G : Nat → Option (List D)}
def outS (w k a b X Z P n : Nat) : Ps := dec w (gE k a b (nf (ptS w X Z P n)))
theorem pt_vl {w X Z P n : Nat} (hX : X < 2 ^ w) (hZ : Z < 2 ^ w) (hP : P < 4) : Vl w (ptS w X Z P n) :=
 ⟨_, _, _, rfl, Nat.lt_of_le_of_lt (Nat.mod_le _ _) hX, Nat.lt_of_le_of_lt (Nat.mod_le _ _) hZ, hP⟩
theorem zry {w k a b X Z P n : Nat} (hw : w ≤ 12) (h : gR w k a b) (hX : X < 2 ^ w) (hZ : Z < 2 ^ w) (hP : P < 4) : Vl w (outS w k a b X Z P n) := zu9 hw h (pt_vl hX hZ hP)
theorem zwl (w k a b X Z P n : Nat) : nf (outS w k a b X Z P n) = gE k a b (nf (ptS w X Z P n)) := zr3 w (zuf _ _ _ _)
theorem out_0 {w k a b X Z P : Nat} (hw : w ≤ 12) (h : gR w k a b) (hX : X < 2 ^ w) (hZ : Z < 2 ^ w) (hP : P < 4) : (⟨w, 0, 0, P⟩ : Ps) = outS w k a b X Z P 0 := by
 have e : (⟨w, 0, 0, P⟩ : Ps) = ptS w X Z P 0 := by
  unfold ptS mk
  rw [Nat.pow_zero, Nat.mod_one, Nat.mod_one]; rfl
 rw [e]
 exact zod hw (pt_vl hX hZ hP) (zry hw h hX hZ hP) (by rw [zwl]; exact pt_0 (zom hw h))
theorem out_end {w k a b X Z P : Nat} (hX : X < 2 ^ w) (hZ : Z < 2 ^ w) : outS w k a b X Z P w = thrS w k a b (mk w X Z P) := by
 unfold outS thrS
 rw [pt_all hX hZ]
theorem out_skip {w k a b X Z P n : Nat} (hw : w ≤ 12) (h : gR w k a b) (hn : n < w) (hx : X.testBit n = false) (hz : Z.testBit n = false) : outS w k a b X Z P (n + 1) = outS w k a b X Z P n := by
 unfold outS
 rw [pt_skip (zom hw h) (by omega) hx hz rfl]
theorem out_step {w k a b X Z P n l : Nat} (hw : w ≤ 12) (h : gR w k a b) (hn : n < w) (hX : X < 2 ^ w) (hZ : Z < 2 ^ w) (hP : P < 4) (hx : X.testBit n = (decide (l = 1) || decide (l = 2))) (hz : Z.testBit n = (decide (l = 2) || decide (l = 3))) :
  timS (outS w k a b X Z P n) (imgS w k a b n l) = outS w k a b X Z P (n + 1) := by
 obtain ⟨t1, t2⟩ := zjj hw (zry (n := n) hw h hX hZ hP) (img_vl (l := l) hw h hn)
 refine zod hw t2 (zry hw h hX hZ hP) (t1.trans ?_)
 rw [zwl, zwl]
 have e : nf (imgS w k a b n l) = gE k a b (eL n (X.testBit n) (Z.testBit n)) := by rw [hx, hz]; exact zr3 w (zuf _ _ _ _)
 rw [e]
 exact zvz (zom hw h) (by omega) rfl
theorem chk145 : chkFn Tryz.f145 = true := by kernel_rfl
theorem chk215 : chkFn Tryz.f215 = true := by kernel_rfl
theorem chk259 : chkFn Tryz.f259 = true := by kernel_rfl
theorem zts {w k a b : Nat} {q : Ps} {K : Int} (hK : K = k) {u : Bool} {bb i : Int} (hw : 1 ≤ w ∧ w ≤ 12) (hg : gR w k a b) (hq : Vl w q) : PC Pr G 145 [q.d, (Gt.mk K (wsOf k a b) u bb i).d] (thrS w k a b q).d := by
 obtain ⟨X, Z, P, rfl, hX, hZ, hP⟩ := hq
 have hpw : (2 : Nat) ^ w ≤ 2 ^ 12 := Nat.pow_le_pow_right (by decide) hw.2
 rw [← out_end hX hZ]
 have hd : ∀ n l : Nat, n < w → (l = 1 ∨ l = 2 ∨ l = 3) → PC Pr G 213 [iD n, iD l, .rop (Gt.mk K (wsOf k a b) u bb i).l 0, .rop (mk w X Z P).l 0] (imgS w k a b n l).d := fun n l hn hl => does213 hK hw hg rfl hn hl
 have hL : ∀ n : Nat, n < w → letterI (X : Int) (Z : Int) n = if X.testBit n && Z.testBit n then 2 else if X.testBit n then 1 else if Z.testBit n then 3 else 0 := fun n hn => zcx (by omega) (by omega) (by omega)
 have hlt : ∀ (n : Nat) (d : D), PC Pr G 157 [.agg [iD w, iD X, iD Z, iD P, d], iD n] (iD (letterI X Z n)) := fun n d => zg4 (mk w X Z P) d n (Int.natCast_nonneg _)
 have h0 := out_0 hw.2 hg hX hZ hP
 have hO := fun n => zry (n := n) hw.2 hg hX hZ hP
 have hS := fun n (hn : n < w) (l : Nat) (hx : X.testBit n = (decide (l = 1) || decide (l = 2))) (hz : Z.testBit n = (decide (l = 2) || decide (l = 3))) => out_step (l := l) hw.2 hg hn hX hZ hP hx hz
 have hK0 := fun n (hn : n < w) (hx : X.testBit n = false) (hz : Z.testBit n = false) => out_skip (P := P) hw.2 hg hn hx hz
 generalize wsOf k a b = ws at hd ⊢
 generalize outS w k a b X Z P = out at h0 hO hS hK0 ⊢
 generalize imgS w k a b = img at hd hS
 refine zak pok Tryz.func145 chk145 ?_
 conv => whnf
 repeat' first | ((first | refine LookP.mk _ rfl ?_ | refine ShlP.mk _ (by first | (simp only [List.set, over, List.take, List.drop, List.append_eq, List.nil_append, List.cons_append, List.length]; rfl) | rfl) ?_ | refine HpP.force ?_); conv => whnf)
 refine za9 pok Tryz.func215 chk215 ?_
 conv => whnf
 skip
 refine za9 pok Tryz.func259 chk259 ?_
 conv => whnf
 repeat' first | (refine LookP.mk _ rfl ?_; conv => whnf)
 refine zar pok (fun n => ⟨[(0, .yld 7), (1, .ptr 5 5 0 0), (6, .d (iD w)), (7, .d (iD n))], [(0, some (.arr 4 [[.d (iD w), .d (iD X), .d (iD Z), .d (iD P)]])), (1, some (.arr 4 [[.d (iD K), .d (intsD ws u), .d (iD bb), .d (iD i)]])), (2, some (.arr 4 [[.d (iD 0), .d (iD 0), .d (iD 0), .d (iD 0)]])), (3, some (.arr 5 [[.d (iD w), .d (iD X), .d (iD Z), .d (iD P), .fn 213 [] [.ptr 1 4 0 0, .ptr 0 4 0 0]]])), (4, some (.arr 4 [(out n).l.map AV.d])), (5, some (.arr 5 [[.d (iD w), .d (iD X), .d (iD Z), .d (iD P), .fn 213 [] [.ptr 1 4 0 0, .ptr 0 4 0 0]]])), (6, some (.raw (.deferred (some [])))), (7, some (.lp [(18, .fn 259 [] [.ptr 5 5 0 0]), (17, .agg [.d (iD w), .d (iD X), .d (iD Z), .d (iD P), .fn 213 [] [.ptr 1 4 0 0, .ptr 0 4 0 0]]), (6, .ptr 4 4 0 0), (16, .d (.agg [iD w, iD 0, iD 0, iD P])), (15, .d (iD P)), (14, .ptr 0 4 0 3), (13, .d (iD w)), (12, .ptr 0 4 0 0), (11, .ptr 3 5 0 4), (10, .fn 213 [] [.ptr 1 4 0 0, .ptr 0 4 0 0]), (5, .ptr 3 5 0 0), (9, .d (.agg [iD w, iD X, iD Z, iD P, .nilf])), (8, .d (.agg [iD w, iD X, iD Z, iD P])), (4, .ptr 2 4 0 0), (3, .ptr 1 4 0 0), (2, .ptr 0 4 0 0), (0, .d (.agg [iD w, iD X, iD Z, iD P])), (1, .d (.agg [iD K, intsD ws u, iD bb, iD i]))] Tryz.f145.ntmps #[19] (rgA Tryz.f145) (rgB Tryz.f145) .ready none 6))], 8⟩) (w) (fun _ => True) (trivial) ?_ (by kernel_rfl) ?_ ?_
 ·refine zad (by first | exact Nat.zero_le _ | exact Nat.le_of_ble_eq_true rfl) ?_ ?_ trivial
  ·repeat' first | exact trivial | refine ⟨⟨by first | rfl | assumption, rfl⟩, ?_⟩
  ·repeat' first | exact trivial | refine ⟨⟨ltB rfl, _, rfl, by first | rfl | assumption | (rw [← h0]; rfl), by first | exact zaf rfl | exact zaa _ _ _ | exact zab rfl | exact trivial | exact ⟨rfl, Nat.le_of_ble_eq_true rfl⟩⟩, ?_⟩
 ·intro n A_n h_n I_n N_n
  have e_n : iadd .i64 (n : Int) 1 = ((n + 1 : Nat) : Int) := zai (by first | omega | (simp at *; omega))
  have hB : chkCode Tryz.f145.ntmps (rgB Tryz.f145) = true := by kernel_rfl
  have hOn := hO n
  have hOw := vl_w hOn
  have hl := hlt n
  have hLn := hL n h_n
  have hSn := hS n h_n
  have hKn := hK0 n h_n
  rw [hLn] at hl
  cases hx : X.testBit n <;> cases hz : Z.testBit n
  ·have hl : ∀ d, PC Pr G 157 [.agg [iD w, iD X, iD Z, iD P, d], iD n] (iD 0) := fun d => by have := hl d; rw [hx, hz] at this; exact this
   have hnx := hKn hx hz
   conv => whnf
   repeat (refine LookP.mk _ rfl ?_; conv => whnf)
   intro t ht
   cases t
   ·exfalso; first | (simp at ht; done) | (simp at ht; omega)
   conv => whnf
   repeat' first | ((first | refine LookP.mk _ rfl ?_ | refine zgz (hl (.fn 213 [] [.rop [iD K, intsD ws u, iD bb, iD i] 0, .rop [iD w, iD X, iD Z, iD P] 0])) rfl rfl ?_); conv => whnf) | (intro t ht; cases t <;> conv => whnf)
   ·refine N_n _ ?_ ?_
    ·first | trivial | assumption | omega
    ·refine zad (by first | exact Nat.zero_le _ | exact Nat.le_of_ble_eq_true rfl) ?_ ?_ trivial
     ·repeat' first | exact trivial | refine ⟨⟨by first | rfl | assumption | exact congrArg (fun n => AV.d (iD n)) e_n, rfl⟩, ?_⟩
     ·repeat' first | exact trivial | refine ⟨⟨ltB rfl, _, rfl, by first | rfl | assumption | (rw [hnx]; rfl), by first | exact zaf rfl | exact zaa _ _ _ | exact zab rfl | exact trivial | exact ⟨rfl, Nat.le_of_ble_eq_true rfl⟩⟩, ?_⟩
   ·exfalso; simp at ht
  ·have hl : ∀ d, PC Pr G 157 [.agg [iD w, iD X, iD Z, iD P, d], iD n] (iD 3) := fun d => by have := hl d; rw [hx, hz] at this; exact this
   have hdn := hd n 3 h_n (by decide)
   have ht2 := zl2 (G := G) (out n) (img n 3) (by rw [hOw]; omega)
   have hnx := hSn 3 hx hz
   rw [hnx] at ht2
   generalize img n 3 = d at hdn ht2
   generalize hon : out n = o at hOn hOw hnx ht2 ⊢
   obtain ⟨ow, ox, oz, op⟩ := o
   obtain rfl : ow = w := hOw
   conv => whnf
   repeat (refine LookP.mk _ rfl ?_; conv => whnf)
   intro t ht
   cases t
   ·exfalso; first | (simp at ht; done) | (simp at ht; omega)
   conv => whnf
   repeat' first | ((first | refine LookP.mk _ rfl ?_ | refine zgz (hl (.fn 213 [] [.rop [iD K, intsD ws u, iD bb, iD i] 0, .rop [iD w, iD X, iD Z, iD P] 0])) rfl rfl ?_); conv => whnf) | (intro t ht; cases t <;> conv => whnf)
   all_goals first | (exfalso; simp at ht; done) | skip
   refine zba pok ?_
   conv => whnf
   repeat' first | ((first | refine LookP.mk _ rfl ?_ | refine ShlP.mk _ (by first | (simp only [List.set, over, List.take, List.drop, List.append_eq, List.nil_append, List.cons_append, List.length]; rfl) | rfl) ?_ | rw [hB] | refine zaq (hl _) ?_ | refine zaq hdn ?_ | refine zaq ht2 ?_ | refine HpP.force ?_); conv => whnf)
   refine N_n _ ?_ ?_
   ·first | trivial | assumption | omega
   ·refine zad (by first | exact Nat.zero_le _ | exact Nat.le_of_ble_eq_true rfl) ?_ ?_ trivial
    ·repeat' first | exact trivial | refine ⟨⟨by first | rfl | assumption | exact congrArg (fun n => AV.d (iD n)) e_n, rfl⟩, ?_⟩
    ·repeat' first | exact trivial | refine ⟨⟨ltB rfl, _, rfl, by first | rfl | assumption, by first | exact zaf rfl | exact zaa _ _ _ | exact zab rfl | exact trivial | exact ⟨rfl, Nat.le_of_ble_eq_true rfl⟩⟩, ?_⟩
  ·have hl : ∀ d, PC Pr G 157 [.agg [iD w, iD X, iD Z, iD P, d], iD n] (iD 1) := fun d => by have := hl d; rw [hx, hz] at this; exact this
   have hdn := hd n 1 h_n (by decide)
   have ht2 := zl2 (G := G) (out n) (img n 1) (by rw [hOw]; omega)
   have hnx := hSn 1 hx hz
   rw [hnx] at ht2
   generalize img n 1 = d at hdn ht2
   generalize hon : out n = o at hOn hOw hnx ht2 ⊢
   obtain ⟨ow, ox, oz, op⟩ := o
   obtain rfl : ow = w := hOw
   conv => whnf
   repeat (refine LookP.mk _ rfl ?_; conv => whnf)
   intro t ht
   cases t
   ·exfalso; first | (simp at ht; done) | (simp at ht; omega)
   conv => whnf
   repeat' first | ((first | refine LookP.mk _ rfl ?_ | refine zgz (hl (.fn 213 [] [.rop [iD K, intsD ws u, iD bb, iD i] 0, .rop [iD w, iD X, iD Z, iD P] 0])) rfl rfl ?_); conv => whnf) | (intro t ht; cases t <;> conv => whnf)
   all_goals first | (exfalso; simp at ht; done) | skip
   refine zba pok ?_
   conv => whnf
   repeat' first | ((first | refine LookP.mk _ rfl ?_ | refine ShlP.mk _ (by first | (simp only [List.set, over, List.take, List.drop, List.append_eq, List.nil_append, List.cons_append, List.length]; rfl) | rfl) ?_ | rw [hB] | refine zaq (hl _) ?_ | refine zaq hdn ?_ | refine zaq ht2 ?_ | refine HpP.force ?_); conv => whnf)
   refine N_n _ ?_ ?_
   ·first | trivial | assumption | omega
   ·refine zad (by first | exact Nat.zero_le _ | exact Nat.le_of_ble_eq_true rfl) ?_ ?_ trivial
    ·repeat' first | exact trivial | refine ⟨⟨by first | rfl | assumption | exact congrArg (fun n => AV.d (iD n)) e_n, rfl⟩, ?_⟩
    ·repeat' first | exact trivial | refine ⟨⟨ltB rfl, _, rfl, by first | rfl | assumption, by first | exact zaf rfl | exact zaa _ _ _ | exact zab rfl | exact trivial | exact ⟨rfl, Nat.le_of_ble_eq_true rfl⟩⟩, ?_⟩
  ·have hl : ∀ d, PC Pr G 157 [.agg [iD w, iD X, iD Z, iD P, d], iD n] (iD 2) := fun d => by have := hl d; rw [hx, hz] at this; exact this
   have hdn := hd n 2 h_n (by decide)
   have ht2 := zl2 (G := G) (out n) (img n 2) (by rw [hOw]; omega)
   have hnx := hSn 2 hx hz
   rw [hnx] at ht2
   generalize img n 2 = d at hdn ht2
   generalize hon : out n = o at hOn hOw hnx ht2 ⊢
   obtain ⟨ow, ox, oz, op⟩ := o
   obtain rfl : ow = w := hOw
   conv => whnf
   repeat (refine LookP.mk _ rfl ?_; conv => whnf)
   intro t ht
   cases t
   ·exfalso; first | (simp at ht; done) | (simp at ht; omega)
   conv => whnf
   repeat' first | ((first | refine LookP.mk _ rfl ?_ | refine zgz (hl (.fn 213 [] [.rop [iD K, intsD ws u, iD bb, iD i] 0, .rop [iD w, iD X, iD Z, iD P] 0])) rfl rfl ?_); conv => whnf) | (intro t ht; cases t <;> conv => whnf)
   all_goals first | (exfalso; simp at ht; done) | skip
   refine zba pok ?_
   conv => whnf
   repeat' first | ((first | refine LookP.mk _ rfl ?_ | refine ShlP.mk _ (by first | (simp only [List.set, over, List.take, List.drop, List.append_eq, List.nil_append, List.cons_append, List.length]; rfl) | rfl) ?_ | rw [hB] | refine zaq (hl _) ?_ | refine zaq hdn ?_ | refine zaq ht2 ?_ | refine HpP.force ?_); conv => whnf)
   refine N_n _ ?_ ?_
   ·first | trivial | assumption | omega
   ·refine zad (by first | exact Nat.zero_le _ | exact Nat.le_of_ble_eq_true rfl) ?_ ?_ trivial
    ·repeat' first | exact trivial | refine ⟨⟨by first | rfl | assumption | exact congrArg (fun n => AV.d (iD n)) e_n, rfl⟩, ?_⟩
    ·repeat' first | exact trivial | refine ⟨⟨ltB rfl, _, rfl, by first | rfl | assumption, by first | exact zaf rfl | exact zaa _ _ _ | exact zab rfl | exact trivial | exact ⟨rfl, Nat.le_of_ble_eq_true rfl⟩⟩, ?_⟩
 ·intro A_last I_last
  have hoe := vl_w (hO w)
  generalize out w = o at hoe ⊢
  conv => whnf
  repeat (refine LookP.mk _ rfl ?_; conv => whnf)
  intro t ht
  cases t
  rotate_left
  ·exfalso; first | (simp at ht; done) | (simp at ht; omega)
  conv => whnf
  repeat' first | ((first | refine LookP.mk _ rfl ?_ | refine ShlP.mk _ (by first | (simp only [List.set, over, List.take, List.drop, List.append_eq, List.nil_append, List.cons_append, List.length]; rfl) | rfl) ?_ | refine HpP.force ?_); conv => whnf)
  exact fin rfl
end Go.Tz
namespace Go.Tz
open Go Go.AL Go.Proofs Go.Ma
variable {G : Nat → Option (List D)}
theorem zgl {H : AHeap} {nm sz N : Nat} {t : Bool} {es : List (List D)} (hg : H.get nm = some (dblk sz es)) (hN : N = es.length) : AsD H (.sl nm sz 0 N N t) (.sl es t) := by
 subst hN
 have := zei (H := H) (lo := 0) (len := es.length) (room := es.length) (t := t) hg (by simp)
 simpa using this
theorem zmt {nm sz : Nat} {es : List (List D)} {H : AHeap} (hg : H.get nm = some (dblk sz es)) : ∀ m b, AHeap.get [(nm, some (dblk sz es))] m = some b → m ∈ [nm] ∧ H.get m = some b := fun m b h => by
 by_cases em : m = nm
 ·subst em; rw [zae] at h; exact ⟨by simp, by rw [hg, ← h]⟩
 ·rw [zac _ _ em] at h; cases h
theorem give_as {a : D} {nm sz N : Nat} {t : Bool} {es : List (List D)} (hN : N = es.length) : ∀ (i : Nat) (v : AV) (d : D), [AV.agg [.d a, .sl nm sz 0 N N t]][i]? = some v → [D.agg [a, .sl es t]][i]? = some d → AsD [(nm, some (dblk sz es))] v d := fun i v d h1 h2 => by
 match i, h1, h2 with
 | 0, h1, h2 =>
  simp at h1 h2; subst h1 h2
  exact znf (.d _) (zgl (zae nm _ []) hN)
 | i + 1, h1, _ => simp at h1
theorem po_giveS {f : FuncId} {a : D} {nm sz N : Nat} {t : Bool} {es : List (List D)} {v : AV} {M : AHeap} {n : Nat} {H : AHeap} {nx : Nat} {k : AV → AHeap → Nat → Prop} (h : PO Pr G f [.agg [a, .sl es t]] v M n) (hg : H.get nm = some (dblk sz es)) (hN : N = es.length)
  (hk : k (v.ren (· + nx)) (M.shift nx ++ dels [nm] H) (nx + n)) : CallVC Pr G f [.agg [.d a, .sl nm sz 0 N N t]] H nx k := by
 refine ⟨h.fn, zf0 (HL := [(nm, some (dblk sz es))]) (L := [nm]) (zcc h.call ?_) rfl (zmt hg) (give_as hN)⟩
 rintro v' N' m ⟨rfl, rfl, rfl⟩
 exact hk
end Go.Tz
namespace Go.Tz
open Go Go.AL Go.Proofs Go.Ma
variable {G : Nat → Option (List D)}
def kindB (k : Int) : Bool := decide ((1 ≤ k ∧ k ≤ 6) ∨ (9 ≤ k ∧ k ≤ 11))
def cliffB (g : Gt) : Bool := decide (g.i = 0) && kindB g.k
theorem chk144 : chkFn Tryz.f144 = true := by kernel_rfl
theorem zsz (g : Gt) : PC Pr G 144 [g.d] (.bool (cliffB g)) := by
 obtain ⟨k, ws, u, b, f⟩ := g
 refine zak pok Tryz.func144 chk144 ?_
 conv => whnf
 repeat' first | (refine LookP.mk _ rfl ?_; conv => whnf) | (intro t ht; cases t <;> conv => whnf)
 all_goals
  refine fin ?_
  refine fiB ?_
  simp at *
  unfold cliffB kindB
  simp
  omega
theorem zmv {g : Gt} {w : Int} {bits : Int} (h : gchk g w bits = 0) : arI g.k ≠ 0 ∧ (g.ws.length : Int) = arI g.k ∧ outB w g.ws = false ∧ dupB g.ws = false ∧ bitE g bits = 0 := by
 unfold gchk at h
 split at h
 ·cases h
 ·split at h
  ·cases h
  ·split at h
   ·cases h
   ·split at h
    ·cases h
    ·rename_i h1 h2 h3 h4
     exact ⟨h1, by omega, by simpa using h3, by simpa using h4, h⟩
theorem zyc {g : Gt} {bits : Int} (h : bitE g bits = 0) : (0 ≤ g.i ∧ g.i ≤ bits) ∧ (g.k = 13 → 0 ≤ g.b ∧ g.b < bits) ∧ ((g.k = 13 ∨ g.k = 14) → g.i = 0) ∧ (g.k ≠ 13 → g.b = 0) := by
 unfold bitE at h
 split at h
 ·cases h
 ·split at h
  ·cases h
  ·rename_i h1 h2
   exact ⟨by omega, by omega, by omega, by omega⟩
def gK (g : Gt) : Nat := g.k.toNat
def gA (g : Gt) : Nat := (g.ws.getD 0 0).toNat
def gB (g : Gt) : Nat := (g.ws.getD 1 0).toNat
theorem len2 {α : Type} : ∀ {l : List α}, l.length = 2 → ∃ a b, l = [a, b]
 | [a, b], _ => ⟨a, b, rfl⟩
theorem gR_of {g : Gt} {w : Nat} {bits : Int} (h : gchk g w bits = 0) (hk : kindB g.k = true) : gR w (gK g) (gA g) (gB g) ∧ g.k = gK g ∧ g.ws = wsOf (gK g) (gA g) (gB g) := by
 obtain ⟨h1, h2, h3, h4, _⟩ := zmv h
 obtain ⟨k, ws, u, b, f⟩ := g
 simp only [gK, gA, gB] at *
 have hk := of_decide_eq_true hk
 have hin : ∀ n, n ∈ ws → 0 ≤ n ∧ n < w := fun n hn => by
  have := List.any_eq_false.1 h3 n hn
  simp at this; omega
 rcases hk with hk | hk
 ·rw [ari1 (by omega)] at h2
  obtain ⟨n, rfl⟩ := List.length_eq_one_iff.1 (show ws.length = 1 by omega)
  have hn := hin n (by simp)
  have e : (k.toNat ≤ 6) := by omega
  refine ⟨.inl ⟨by omega, by omega, ?_⟩, by omega, ?_⟩
  ·simp; omega
  ·unfold wsOf
   rw [if_pos e]
   simp; omega
 ·rw [ari2 (by omega)] at h2
  obtain ⟨n, m, rfl⟩ := len2 (show ws.length = 2 by omega)
  have hn := hin n (by simp)
  have hm := hin m (by simp)
  have hd : n ≠ m := fun q => by
   have := List.any_eq_false.1 h4 1 (List.mem_range.2 (by simp))
   rw [zm2 (by simp)] at this
   simp [q] at this
  have e : ¬ (k.toNat ≤ 6) := by omega
  refine ⟨.inr ⟨by omega, by omega, ?_, ?_, ?_⟩, by omega, ?_⟩
  ·simp; omega
  ·simp; omega
  ·simp; omega
  ·unfold wsOf
   rw [if_neg e]
   simp; omega
def thrG (w : Nat) (g : Gt) (q : Ps) : Ps := thrS w (gK g) (gA g) (gB g) q
theorem zph {w : Nat} (hw : 1 ≤ w ∧ w ≤ 12) {g : Gt} {bits : Int} (h : gchk g w bits = 0) (hk : kindB g.k = true) {q : Ps} (hq : Vl w q) : PC Pr G 145 [q.d, g.d] (thrG w g q).d := by
 obtain ⟨h1, h2, h3⟩ := gR_of h hk
 have := zts (G := G) (u := g.u) (bb := g.b) (i := g.i) h2 hw h1 hq
 rw [← h3] at this
 exact this
theorem cchk_one {w : Nat} (hw : 1 ≤ w ∧ w ≤ 12) (g : Gt) : cchk w 0 [g] = gchk g w 0 := by
 by_cases h : gchk g w 0 = 0
 ·rw [h]
  exact cchk0 (by omega) (by simp) (by simpa using h)
 ·exact zx7 (l := [g]) (i := 0) (by omega) (by simp) (by simp) (by simp) h
theorem chk69 : chkFn Tryz.f69 = true := by kernel_rfl
def thrD (w : Nat) (g : Gt) (q : Ps) : D := if gchk g w 0 ≠ 0 then .tup [Ps.d ⟨0, 0, 0, 0⟩, iD (gchk g w 0)] else if kindB g.k = true then .tup [(thrG w g q).d, iD 0] else .tup [Ps.d ⟨0, 0, 0, 0⟩, iD 7]
theorem zu8 {w : Nat} (hw : 1 ≤ w ∧ w ≤ 12) (g : Gt) (hn : g.ws.length ≤ 1000) {q : Ps} (hq : Vl w q) : PC Pr G 69 [q.d, g.d] (thrD w g q) := by
 have h1 := zeq (G := G) q
 rw [zjy hw hq] at h1
 have hqw := vl_w hq
 have h2 : ∀ t, PC Pr G 129 [circD q.w 0 [g] t] (iD (gchk g w 0)) := fun t => by
  have := zs3 (G := G) w 0 [g] t (by simp) (by simpa using hn)
  rw [cchk_one hw] at this
  rw [hqw]; exact this
 have h3 := zsz (G := G) g
 have h4 := fun h k => zph (G := G) hw (g := g) (bits := 0) h k hq
 have hi0 : gchk g w 0 = 0 → g.i = 0 := fun h => by
  have := (zyc (zmv h).2.2.2.2).1; omega
 unfold thrD
 generalize thrG w g q = r at h4 ⊢
 obtain ⟨k, ws, u, b, f⟩ := g
 by_cases he : gchk ⟨k, ws, u, b, f⟩ w 0 = 0
 ·have hf := hi0 he
  simp only at hf
  subst hf
  rw [if_neg (fun h => h he)]
  rw [he] at h2
  have e3 : cliffB ⟨k, ws, u, b, 0⟩ = kindB k := by unfold cliffB; simp
  rw [e3] at h3
  by_cases hk : kindB k = true
  ·have h5 := h4 he hk
   rw [if_pos hk]
   rw [hk] at h3
   refine zak pok Tryz.func69 chk69 ?_
   conv => whnf
   repeat' first | ((first | refine LookP.mk _ rfl ?_ | refine ShlP.mk _ (by first | (simp only [List.set, over, List.take, List.drop, List.append_eq, List.nil_append, List.cons_append, List.length]; rfl) | rfl) ?_ | refine zaj h1 ?_ | refine zem (h2 true) rfl ?_ | refine zaj h3 ?_ | refine zaj h5 ?_ | refine HpP.force ?_); conv => whnf) | (intro t ht; cases t <;> conv => whnf)
   all_goals first | exact fin rfl | (exfalso; simp at ht; done)
  ·rw [if_neg hk]
   have hk : kindB k = false := by simpa using hk
   rw [hk] at h3
   refine zak pok Tryz.func69 chk69 ?_
   conv => whnf
   repeat' first | ((first | refine LookP.mk _ rfl ?_ | refine ShlP.mk _ (by first | (simp only [List.set, over, List.take, List.drop, List.append_eq, List.nil_append, List.cons_append, List.length]; rfl) | rfl) ?_ | refine zaj h1 ?_ | refine zem (h2 true) rfl ?_ | refine zaj h3 ?_ | refine HpP.force ?_); conv => whnf) | (intro t ht; cases t <;> conv => whnf)
   all_goals first | exact fin rfl | (exfalso; simp at ht; done)
 ·rw [if_pos he]
  generalize gchk ⟨k, ws, u, b, f⟩ w 0 = e at h2 he ⊢
  refine zak pok Tryz.func69 chk69 ?_
  conv => whnf
  repeat' first | ((first | refine LookP.mk _ rfl ?_ | refine ShlP.mk _ (by first | (simp only [List.set, over, List.take, List.drop, List.append_eq, List.nil_append, List.cons_append, List.length]; rfl) | rfl) ?_ | refine zaj h1 ?_ | refine zem (h2 true) rfl ?_ | refine HpP.force ?_); conv => whnf) | (intro t ht; cases t <;> conv => whnf)
  all_goals first | exact fin rfl | (exfalso; simp at ht; first | done | exact he ht)
theorem chk126 : chkFn Tryz.f126 = true := by kernel_rfl
theorem zqm (w bits : Int) (l : List Gt) (t : Bool) (hn : l.length ≤ 1000) (hws : ∀ g, g ∈ l → g.ws.length ≤ 1000) : PC Pr G 126 [circD w bits l t] (if cchk w bits l = 0 then .tup [.bool (l.all cliffB), iD 0] else .tup [.bool false, iD (cchk w bits l)]) := by
 have h1 := zs3 (G := G) w bits l t hn hws
 have h2 := every206 (G := G) l t 144 [] [] cliffB hn fun g _ => zsz g
 generalize (l.all cliffB) = r at h2 ⊢
 generalize cchk w bits l = e at h1 ⊢
 by_cases he : e = 0
 ·subst he
  rw [if_pos rfl]
  refine zak pok Tryz.func126 chk126 ?_
  conv => whnf
  repeat' first | ((first | refine LookP.mk _ rfl ?_ | refine zaj h1 ?_ | refine zaj h2 ?_); conv => whnf) | (intro t ht; cases t <;> conv => whnf)
  all_goals first | exact fin rfl | (exfalso; simp at ht; done)
 ·rw [if_neg he]
  refine zak pok Tryz.func126 chk126 ?_
  conv => whnf
  repeat' first | ((first | refine LookP.mk _ rfl ?_ | refine zaj h1 ?_); conv => whnf) | (intro t ht; cases t <;> conv => whnf)
  all_goals first | exact fin rfl | (exfalso; simp at ht; first | done | exact he ht)
end Go.Tz
namespace Go.Tz
open Go Go.AL Go.Proofs Go.Ma
variable {G : Nat → Option (List D)}
def appG (w : Nat) (g : Gt) (l : List Ps) : List Ps := redRows (l.map (thrG w g)) (2 * w)
theorem thrG_vl {w : Nat} (hw : w ≤ 12) {g : Gt} {bits : Int} (hg : gchk g w bits = 0) (hk : kindB g.k = true) {q : Ps} (hq : Vl w q) : Vl w (thrG w g q) := zu9 hw (gR_of hg hk).1 hq
theorem zra {w : Nat} (hw : w ≤ 12) {g : Gt} {bits : Int} (hg : gchk g w bits = 0) (hk : kindB g.k = true) {l : List Ps} (hv : ∀ q, q ∈ l → Vl w q) : ∀ q, q ∈ l.map (thrG w g) → Vl w q := fun q hq => by
 obtain ⟨r, hr, rfl⟩ := List.mem_map.1 hq
 exact thrG_vl hw hg hk (hv r hr)
theorem appG_len (w : Nat) (g : Gt) (l : List Ps) : (appG w g l).length = l.length := by simp [appG, zgf]
theorem appG_vl {w : Nat} (hw : w ≤ 12) {g : Gt} {bits : Int} (hg : gchk g w bits = 0) (hk : kindB g.k = true) {l : List Ps} (hv : ∀ q, q ∈ l → Vl w q) : ∀ q, q ∈ appG w g l → Vl w q := zt1 hw (zra hw hg hk hv) _
theorem zs9 {w : Nat} {g : Gt} {bits : Int} (hg : gchk g w bits = 0) (hk : kindB g.k = true) {l : List Ps} (h : SOk w l) : SOk w (appG w g l) := app_sok (gR_of hg hk).1 h
theorem appG_red {w : Nat} {g : Gt} {bits : Int} (hg : gchk g w bits = 0) (hk : kindB g.k = true) {l : List Ps} (h : SOk w l) : redRows (appG w g l) (2 * w) = appG w g l := red_red (zj2 (gR_of hg hk).1 h)
theorem chk125 : chkFn Tryz.f125 = true := by kernel_rfl
theorem zup {w : Nat} (hw : 1 ≤ w ∧ w ≤ 12) {k b i : Int} {ws : List Int} {u : Bool} (hg : gchk ⟨k, ws, u, b, 0⟩ w 0 = 0) (hk : kindB k = true) (l : List Ps) (t : Bool) (hn : l.length ≤ 1000) (hv : ∀ q, q ∈ l → Vl w q) :
  PO Pr G 125 [stD w l t, (Gt.mk k ws u b i).d] (.agg [.d (iD w), .sl 0 4 0 l.length l.length true]) [(0, some (dblk 4 ((appG w ⟨k, ws, u, b, 0⟩ l).map Ps.l)))] 1 := by
 have hwl : ws.length ≤ 1000 := by
  have h := (zmv hg).2.1
  simp only at h
  have : arI k ≤ 3 := by unfold arI; split <;> (try split) <;> (try split) <;> omega
  omega
 have hgv := zra hw.2 hg hk hv
 have hc := zhe (G := G) hw (l.map (thrG w ⟨k, ws, u, b, 0⟩)) false (by simpa using hn) hgv
 have ht : ∀ q, Vl w q → PC Pr G 69 [q.d, (Gt.mk k ws u b 0).d] (.tup [(thrG w ⟨k, ws, u, b, 0⟩ q).d, iD 0]) := fun q hq => by
  have := zu8 (G := G) hw ⟨k, ws, u, b, 0⟩ hwl hq
  unfold thrD at this
  rw [if_neg (fun h => h hg), if_pos hk] at this
  exact this
 show PO Pr G 125 _ _ [(0, some (dblk 4 ((redRows (l.map (thrG w ⟨k, ws, u, b, 0⟩)) (2 * w)).map Ps.l)))] 1
 generalize thrG w ⟨k, ws, u, b, 0⟩ = F at hc ht ⊢
 have hlen : (l.map F).length = l.length := by simp
 rw [hlen] at hc
 generalize redRows (l.map F) (2 * w) = R at hc ⊢
 refine ⟨za0 Tryz.func125 chk125, zbf (K := fun v H _ => v = .agg [.d (iD w), .sl 5 4 0 l.length l.length true] ∧ H.get 5 = some (dblk 4 (R.map Ps.l))) (za2 pok Tryz.func125 chk125 ?_) ?_⟩
 ·conv => whnf
  repeat' first | ((first | refine LookP.mk _ rfl ?_ | refine ShlP.mk _ (by first | (simp only [List.set, over, List.take, List.drop, List.append_eq, List.nil_append, List.cons_append, List.length]; rfl) | rfl) ?_ | refine HpP.force ?_); conv => whnf)
  refine zar pok (fun j => ⟨[(3, .ptr 1 4 0 0), (4, .ptr 2 2 0 0), (5, .ptr 3 2 0 0), (15, .d (rowsD l t)), (16, .d (iD (l.map Ps.l).length)), (17, .d (iD j))], [(1, some (.arr 4 [[.d (iD k), .d (intsD ws u), .d (iD b), .d (iD 0)]])), (2, some (.arr 2 [[.d (iD 0), .d (.sl [] true)]])), (3, some (.arr 2 [[.d (iD w), .sl 4 4 0 j j false]])), (4, some (dblk 4 (((l.take j).map F).map Ps.l)))], 5⟩) (l.length) (fun _ => True) (trivial) ?_ (by kernel_rfl) ?_ ?_
  ·refine Sub.trans (znt (nm := 3) (S := 4) (Nat.zero_le _) rfl) ?_
   refine zad (by first | exact Nat.zero_le _ | exact Nat.le_of_ble_eq_true rfl) ?_ ?_ trivial
   ·repeat' first | exact trivial | refine ⟨⟨by first | rfl | assumption, rfl⟩, ?_⟩
   ·repeat' first | exact trivial | refine ⟨⟨ltB rfl, _, rfl, by first | rfl | assumption, by first | exact zaf rfl | exact zaa _ _ _ | exact zab rfl⟩, ?_⟩
  ·intro j A_j h_j I_j N_j
   have e_j : iadd .i64 (j : Int) 1 = ((j + 1 : Nat) : Int) := zai (by first | omega | (simp at *; omega))
   have hj := ht l[j] (hv _ (List.getElem_mem h_j))
   have hsn : ((l.take (j + 1)).map F).map Ps.l = ((l.take j).map F).map Ps.l ++ [(F l[j]).l] := by rw [zbr h_j, List.map_append, List.map_append]; rfl
   have hml : (((l.take j).map F).map Ps.l).length = j := by rw [List.length_map, List.length_map, List.length_take]; omega
   generalize ((l.take j).map F).map Ps.l = M at hsn hml
   generalize F l[j] = r at hj hsn
   conv => whnf
   repeat (refine LookP.mk _ rfl ?_; conv => whnf)
   intro t ht
   cases t
   ·exfalso; first | (simp at ht; done) | (simp at ht; omega)
   conv => whnf
   repeat' first | ((first | refine LookP.mk _ (by first | rfl | exact zkc h_j) ?_ | refine ShlP.mk _ (by first | (simp only [List.set, over, List.take, List.drop, List.append_eq, List.nil_append, List.cons_append, List.length]; rfl) | rfl) ?_ | (refine And.intro (by first | exact Nat.le_refl _ | exact ⟨by rw [List.length_map]; exact hml, by decide, by show (2 * (j + 1) + 192) * 32 ≤ 281474976710656; omega⟩ | assumption | exact ⟨by kernel_rfl, rfl⟩ | decide | omega) ?_) | refine zaj hj ?_ | rw [nbeq] | refine HpP.force ?_); conv => whnf)
   refine N_j _ ?_ ?_
   ·first | trivial | assumption | omega
   ·first | refine za5 [(4, 8)] ?_ ?_ ?_ trivial | refine zau [(4, 8)] rfl rfl ?_ ?_ ?_ trivial
    ·repeat' first | exact trivial | refine ⟨⟨by first | rfl | assumption | exact congrArg (fun n => AV.d (iD n)) e_j, rfl⟩, ?_⟩
    ·repeat' first | exact trivial | refine ⟨⟨ltB rfl, _, rfl, by first | rfl | assumption | exact zag rfl (by first | rfl | assumption | exact zag rfl (by rw [hsn]; exact congrArg some (zbe rfl))) | exact zag rfl (by rw [hsn]; exact congrArg some (zbe rfl)), by first | exact zaf rfl | exact zaa _ _ _ | exact zab rfl⟩, ?_⟩
    ·repeat' first | exact trivial | (refine And.intro ?_ ?_) | (exact fun _ => rfl) | (exact fun h => absurd h (Nat.ne_of_beq_eq_false rfl))
  ·intro A_last I_last
   have hT : l.take l.length = l := List.take_of_length_le (Nat.le_refl _)
   rw [hT]
   conv => whnf
   repeat (refine LookP.mk _ rfl ?_; conv => whnf)
   intro t ht
   cases t
   rotate_left
   ·exfalso; first | (simp at ht; done) | (simp at ht; omega)
   conv => whnf
   repeat' first | ((first | refine LookP.mk _ rfl ?_ | refine ShlP.mk _ (by first | (simp only [List.set, over, List.take, List.drop, List.append_eq, List.nil_append, List.cons_append, List.length]; rfl) | rfl) ?_ | refine po_giveS hc rfl (by simp) ?_ | refine HpP.force ?_); conv => whnf)
   refine fin ⟨rfl, ?_⟩
   show some (Blk.ren _ (dblk 4 _)) = _
   rw [zbv]
 ·rintro v H n ⟨rfl, h2⟩
  refine ⟨_, _, 1, ?_, rfl, rfl, rfl⟩
  first | refine za5 [(0, 5)] ?_ ?_ ?_ trivial | refine zau [(0, 5)] rfl rfl ?_ ?_ ?_ trivial
  ·repeat' first | exact trivial | refine ⟨⟨by first | rfl | assumption, rfl⟩, ?_⟩
  ·repeat' first | exact trivial | refine ⟨⟨ltB rfl, _, rfl, by first | rfl | assumption | exact zag rfl (by first | rfl | assumption | exact zag rfl h2) | exact zag rfl h2, by first | exact zaf rfl | exact zaa _ _ _ | exact zab rfl⟩, ?_⟩
  ·repeat' first | exact trivial | (refine And.intro ?_ ?_) | (exact fun _ => rfl) | (exact fun h => absurd h (Nat.ne_of_beq_eq_false rfl))
end Go.Tz
namespace Go.Tz
open Go Go.AL Go.Proofs Go.Ma
variable {G : Nat → Option (List D)}
theorem give_as2 {a e : D} {nm sz N : Nat} {t : Bool} {es : List (List D)} (hN : N = es.length) : ∀ (i : Nat) (v : AV) (d : D), [AV.agg [.d a, .sl nm sz 0 N N t], .d e][i]? = some v → [D.agg [a, .sl es t], e][i]? = some d → AsD [(nm, some (dblk sz es))] v d := fun i v d h1 h2 => by
 match i, h1, h2 with
 | 0, h1, h2 =>
  simp at h1 h2; subst h1 h2
  exact znf (.d _) (zgl (zae nm _ []) hN)
 | 1, h1, h2 => simp at h1 h2; subst h1 h2; exact .d _
 | i + 2, h1, _ => simp at h1
theorem zv6 {f : FuncId} {a e : D} {nm sz N : Nat} {t : Bool} {es : List (List D)} {v : AV} {M : AHeap} {n : Nat} {H : AHeap} {nx : Nat} {k : AV → AHeap → Nat → Prop} (h : PO Pr G f [.agg [a, .sl es t], e] v M n) (hg : H.get nm = some (dblk sz es)) (hN : N = es.length)
  (hk : k (v.ren (· + nx)) (M.shift nx ++ dels [nm] H) (nx + n)) : CallVC Pr G f [.agg [.d a, .sl nm sz 0 N N t], .d e] H nx k := by
 refine ⟨h.fn, zf0 (HL := [(nm, some (dblk sz es))]) (L := [nm]) (zcc h.call ?_) rfl (zmt hg) (give_as2 hN)⟩
 rintro v' N' m ⟨rfl, rfl, rfl⟩
 exact hk
def ofS (w : Nat) (gs : List Gt) : List Ps := gs.foldl (fun l g => appG w g l) (zeroS w)
theorem ofS_snoc {w : Nat} {gs : List Gt} {i : Nat} (h : i < gs.length) : ofS w (gs.take (i + 1)) = appG w gs[i] (ofS w (gs.take i)) := by
 unfold ofS; rw [zbr h, List.foldl_append]; rfl
theorem zni (w : Nat) : (zeroS w).length = w := by simp [zeroS]
theorem zyp (w : Nat) : ∀ q, q ∈ zeroS w → Vl w q := fun q hq => by
 obtain ⟨i, hi, rfl⟩ := List.mem_map.1 hq
 exact ⟨0, 2 ^ i, 0, rfl, Nat.two_pow_pos w, Nat.pow_lt_pow_right (by decide) (List.mem_range.1 hi), by decide⟩
theorem zp1 (w : Nat) : ∀ (gs : List Gt) (l : List Ps), (gs.foldl (fun l g => appG w g l) l).length = l.length
 | [], _ => rfl
 | g :: gs, l => by rw [List.foldl_cons, zp1 w gs, appG_len]
theorem ofS_vl {w : Nat} (hw : w ≤ 12) {bits : Int} : ∀ (gs : List Gt) (l : List Ps), (∀ g, g ∈ gs → gchk g w bits = 0 ∧ kindB g.k = true) → (∀ q, q ∈ l → Vl w q) → ∀ q, q ∈ gs.foldl (fun l g => appG w g l) l → Vl w q
 | [], _, _, hv => hv
 | g :: gs, l, hg, hv => ofS_vl hw gs (appG w g l) (fun x hx => hg x (List.mem_cons_of_mem _ hx)) (appG_vl hw (hg g (by simp)).1 (hg g (by simp)).2 hv)
end Go.Tz
namespace Go.Tz
open Go Go.AL Go.Proofs Go.Ma
variable {G : Nat → Option (List D)}
theorem zxh {k b i : Int} {ws : List Int} {u : Bool} {w bits : Int} (hk : kindB k = true) (h : gchk ⟨k, ws, u, b, i⟩ w bits = 0) : gchk ⟨k, ws, u, b, 0⟩ w 0 = 0 := by
 obtain ⟨h1, h2, h3, h4, h5⟩ := zmv h
 obtain ⟨b1, b2, b3, b4⟩ := zyc h5
 have hk := of_decide_eq_true hk
 simp only at *
 unfold gchk
 simp only
 rw [if_neg h1, if_neg (by simpa using h2), if_neg (by rw [h3]; simp), if_neg (by rw [h4]; simp)]
 exact bitE0 (by simp only; omega) (by simp only; omega)
def ofE (w b : Int) (l : List Gt) : Int := if cchk w b l ≠ 0 then cchk w b l else if l.all cliffB = true then 0 else 7
theorem ofE_ok {w b : Int} {l : List Gt} (h : ofE w b l = 0) : cchk w b l = 0 ∧ l.all cliffB = true := by
 unfold ofE at h
 split at h
 ·contradiction
 ·rename_i h1
  split at h
  ·rename_i h2; exact ⟨by simpa using h1, h2⟩
  ·cases h
theorem gates_ok {w : Nat} {b : Int} {l : List Gt} (h : ofE w b l = 0) : (1 ≤ w ∧ w ≤ 12) ∧ ∀ g, g ∈ l → gchk g w b = 0 ∧ kindB g.k = true := by
 obtain ⟨h1, h2⟩ := ofE_ok h
 obtain ⟨a1, _, _, a4⟩ := cchk_ok h1
 refine ⟨by omega, fun g hg => ⟨a4 g hg, ?_⟩⟩
 have := List.all_eq_true.1 h2 g hg
 unfold cliffB at this
 simp at this
 exact this.2
def tfB : Nat → Bool
 | 0 => false
 | _ + 1 => true
theorem chk49 : chkFn Tryz.f49 = true := by kernel_rfl
theorem of49 {w : Nat} {b : Int} {l : List Gt} (h : ofE w b l = 0) (t : Bool) (hn : l.length ≤ 1000) (hws : ∀ g, g ∈ l → g.ws.length ≤ 1000) : PO Pr GG 49 [circD w b l t] (ownV w w (tfB l.length)) [(0, some (dblk 4 ((ofS w l).map Ps.l)))] 1 := by
 obtain ⟨hw, hgs⟩ := gates_ok h
 obtain ⟨h1, h2⟩ := ofE_ok h
 have c1 := zqm (G := GG) w b l t hn hws
 rw [if_pos h1, h2] at c1
 have c3 := zyq hw
 refine ⟨za0 Tryz.func49 chk49, zbf (K := fun v H _ => v = .tup [.agg [.d (iD w), .sl 2 4 0 w w (tfB l.length)], .d (iD 0)] ∧ H.get 2 = some (dblk 4 ((ofS w l).map Ps.l))) (za2 pok Tryz.func49 chk49 ?_) ?_⟩
 ·conv => whnf
  repeat' first | ((first | refine LookP.mk _ rfl ?_ | refine ShlP.mk _ (by first | (simp only [List.set, over, List.take, List.drop, List.append_eq, List.nil_append, List.cons_append, List.length]; rfl) | rfl) ?_ | refine zaj c1 ?_ | refine zn9 c3 ?_ | refine HpP.force ?_); conv => whnf) | (intro t ht; cases t <;> conv => whnf)
  ·refine zar pok (fun i => ⟨[(2, .ptr 1 2 0 0), (6, .ptr 3 2 0 0), (25, .d (gatesD l t)), (26, .d (iD (l.map Gt.l).length)), (27, .d (iD i))], [(1, some (.arr 2 [[.d (iD 0), .d (.sl [] true)]])), (2, some (dblk 4 ((ofS w (l.take i)).map Ps.l))), (3, some (.arr 2 [[.d (iD w), .sl 2 4 0 w w (tfB i)]]))], 4⟩) (l.length) (fun _ => True) (trivial) ?_ (by kernel_rfl) ?_ ?_
   ·refine zad (by first | exact Nat.zero_le _ | exact Nat.le_of_ble_eq_true rfl) ?_ ?_ trivial
    ·repeat' first | exact trivial | refine ⟨⟨by first | rfl | assumption, rfl⟩, ?_⟩
    ·repeat' first | exact trivial | refine ⟨⟨ltB rfl, _, rfl, by first | rfl | assumption | exact (show some (Blk.ren _ (dblk 4 ((zeroS w).map Ps.l))) = some (dblk 4 ((zeroS w).map Ps.l)) from by rw [zbv]), by first | exact zaf rfl | exact zaa _ _ _ | exact zab rfl⟩, ?_⟩
   ·intro i A_i h_i I_i N_i
    have e_i : iadd .i64 (i : Int) 1 = ((i + 1 : Nat) : Int) := zai (by first | omega | (simp at *; omega))
    obtain ⟨g1, g2⟩ := hgs _ (List.getElem_mem h_i)
    have hlen : (ofS w (l.take i)).length = w := by unfold ofS; rw [zp1, zni]
    have hvl : ∀ q, q ∈ ofS w (l.take i) → Vl w q := ofS_vl hw.2 _ _ (fun g hg => hgs g (List.mem_of_mem_take hg)) (zyp w)
    have hsn := ofS_snoc (w := w) h_i
    have hgl : (l.map Gt.l)[(i : Int).toNat]? = some (l[i]).l := get_g h_i
    generalize l[i] = g at g1 g2 hsn hgl
    obtain ⟨gk, gws, gu, gb, gi⟩ := g
    have ha := zup (G := GG) hw (i := gi) (zxh g2 g1) g2 (ofS w (l.take i)) (tfB i) (by omega) hvl
    have e : appG w ⟨gk, gws, gu, gb, 0⟩ (ofS w (l.take i)) = ofS w (l.take (i + 1)) := hsn.symm
    rw [e, hlen] at ha
    generalize ofS w (l.take i) = m at ha hlen ⊢
    have hml : w = (m.map Ps.l).length := by rw [List.length_map, hlen]
    conv => whnf
    repeat (refine LookP.mk _ rfl ?_; conv => whnf)
    intro t ht
    cases t
    ·exfalso; first | (simp at ht; done) | (simp at ht; omega)
    conv => whnf
    repeat' first | ((first | refine LookP.mk _ (by first | rfl | exact hgl) ?_ | refine ShlP.mk _ (by first | (simp only [List.set, over, List.take, List.drop, List.append_eq, List.nil_append, List.cons_append, List.length]; rfl) | rfl) ?_ | refine And.intro (by first | assumption | exact ⟨by kernel_rfl, rfl⟩ | decide | omega) ?_ | refine zv6 ha rfl hml ?_ | refine HpP.force ?_); conv => whnf)
    refine N_i _ ?_ ?_
    ·first | trivial | assumption | omega
    ·first | refine za5 [(2, 5)] ?_ ?_ ?_ trivial | refine zau [(2, 5)] rfl rfl ?_ ?_ ?_ trivial
     ·repeat' first | exact trivial | refine ⟨⟨by first | rfl | assumption | exact congrArg (fun n => AV.d (iD n)) e_i, rfl⟩, ?_⟩
     ·repeat' first | exact trivial | refine ⟨⟨ltB rfl, _, rfl, by first | rfl | assumption | exact zag rfl (by first | rfl | assumption | exact zag rfl (show some (Blk.ren _ (dblk 4 _)) = _ from by rw [zbv])) | exact zag rfl (show some (Blk.ren _ (dblk 4 _)) = _ from by rw [zbv]), by first | exact zaf rfl | exact zaa _ _ _ | exact zab rfl⟩, ?_⟩
     ·repeat' first | exact trivial | (refine And.intro ?_ ?_) | (exact fun _ => rfl) | (exact fun h => absurd h (Nat.ne_of_beq_eq_false rfl))
   ·intro A_last I_last
    rw [List.take_length]
    conv => whnf
    repeat (refine LookP.mk _ rfl ?_; conv => whnf)
    intro t ht
    cases t
    rotate_left
    ·exfalso; first | (simp at ht; done) | (simp at ht; omega)
    conv => whnf
    repeat' first | ((first | refine LookP.mk _ rfl ?_ | refine ShlP.mk _ (by first | (simp only [List.set, over, List.take, List.drop, List.append_eq, List.nil_append, List.cons_append, List.length]; rfl) | rfl) ?_ | refine HpP.force ?_); conv => whnf)
    exact fin ⟨rfl, rfl⟩
  all_goals (exfalso; simp at ht; done)
 ·rintro v H n ⟨rfl, h2⟩
  refine ⟨_, _, 1, ?_, rfl, rfl, rfl⟩
  first | refine za5 [(0, 2)] ?_ ?_ ?_ trivial | refine zau [(0, 2)] rfl rfl ?_ ?_ ?_ trivial
  ·repeat' first | exact trivial | refine ⟨⟨by first | rfl | assumption, rfl⟩, ?_⟩
  ·repeat' first | exact trivial | refine ⟨⟨ltB rfl, _, rfl, by first | rfl | assumption | exact zag rfl (by first | rfl | assumption | exact zag rfl h2) | exact zag rfl h2, by first | exact zaf rfl | exact zaa _ _ _ | exact zab rfl⟩, ?_⟩
  ·repeat' first | exact trivial | (refine And.intro ?_ ?_) | (exact fun _ => rfl) | (exact fun h => absurd h (Nat.ne_of_beq_eq_false rfl))
end Go.Tz
namespace Go.Tz
open Go Go.AL Go.Proofs Go.Ma
variable {G : Nat → Option (List D)}
theorem zpo {w : Nat} {l : List Ps} (h : SOk w l) : l.length ≤ 1000 := by have := h.len; have := h.hi; omega
end Go.Tz
namespace Go.Tz
open Go Go.AL Go.Proofs Go.Ma
abbrev wkF (w nm : Nat) (F : FuncId) : Blk := .arr 3 [[.d (iD w), .sl nm 4 0 w w true, .fn F [.ptr 2 3 0 0] []]]
def rangesOf : Code → List (Code × Code)
 | .seq c d => rangesOf c ++ rangesOf d
 | .cond _ c d => rangesOf c ++ rangesOf d
 | .block _ c => rangesOf c
 | .scope c => rangesOf c
 | .rangeFunc _ _ a b => [(a, b)]
 | _ => []
noncomputable def rgI (f : Func) (i : Nat) : Code × Code := match f.body with
 | some c => (rangesOf c).getD i (.skip, .skip)
 | none => (.skip, .skip)
def prS (p : Ps) (rf : Nat → Ps) (a0 m j : Nat) : Ps := if j < m ∧ j ≠ a0 ∧ comV p (rf j) = false then mulS (rf j) (rf a0) else rf j
section
variable {p : Ps} {rf : Nat → Ps} {a0 m : Nat}
theorem prS_0 {j : Nat} : prS p rf a0 0 j = rf j := by unfold prS; rw [if_neg (by omega)]
theorem prS_at : prS p rf a0 m m = rf m := by unfold prS; rw [if_neg (by omega)]
theorem zru : prS p rf a0 m a0 = rf a0 := by unfold prS; rw [if_neg fun h => h.2.1 rfl]
theorem zv2 (h1 : m ≠ a0) (h2 : comV p (rf m) = false) : prS p rf a0 (m + 1) m = mulS (rf m) (rf a0) := by unfold prS; rw [if_pos ⟨by omega, h1, h2⟩]
theorem zrt (j : Nat) : (if j = m then Ps.l (prS p rf a0 (m + 1) m) else Ps.l (prS p rf a0 m j)) = Ps.l (prS p rf a0 (m + 1) j) := by
 by_cases h : j = m
 ·rw [if_pos h, h]
 ·rw [if_neg h]
  unfold prS
  have e : (j < m + 1 ∧ j ≠ a0 ∧ comV p (rf j) = false) ↔ (j < m ∧ j ≠ a0 ∧ comV p (rf j) = false) := by constructor <;> (rintro ⟨a, b, c⟩; exact ⟨by omega, b, c⟩)
  simp only [e]
theorem ziz (h : comV p (rf m) = true ∨ m = a0) : prS p rf a0 (m + 1) = prS p rf a0 m := by
 funext j
 unfold prS
 by_cases hj : j = m
 ·subst hj
  rw [if_neg, if_neg (by omega)]
  rintro ⟨_, h2, h3⟩
  rcases h with h | h
  ·rw [h] at h3; cases h3
  ·exact h2 h
 ·have e : (j < m + 1 ∧ j ≠ a0 ∧ comV p (rf j) = false) ↔ (j < m ∧ j ≠ a0 ∧ comV p (rf j) = false) := by constructor <;> (rintro ⟨a, b, c⟩; exact ⟨by omega, b, c⟩)
  simp only [e]
end
theorem bneT {a : Int} {k : Bool → Prop} (h : k false) : ∀ t, (a != a) = t → k t := fun t e => by
 have e2 : false = t := (show (a != a) = false by simp).symm.trans e
 exact e2 ▸ h
theorem bneF {a b : Int} (hne : a ≠ b) {k : Bool → Prop} (h : k true) : ∀ t, (a != b) = t → k t := fun t e => by
 have e2 : true = t := (show (a != b) = true by simpa using hne).symm.trans e
 exact e2 ▸ h
theorem zim : chkFn Tryz.f136 = true := by kernel_rfl
theorem zp4 {w n o : Nat} (hw : 1 ≤ w ∧ w ≤ 12) (hn : n < w) (ho : o ≤ 1) (F : FuncId) {rf : Nat → Ps} {a0 : Nat} {R : List Nat} (hpv : Vl w (zP w n o)) (hvl : ∀ j, j < w → Vl w (rf j)) (hA : antL (zP w n o) rf w = a0 :: R)
  (hx2 : PC Pr GG 107 [.agg [iD w, .sl ((List.range w).map fun j => Ps.l (rf j)) true], (zP w n o).d] (iD 0)) :
  ACall Pr GG 136 [.ptr 2 3 0 0, .d (iD n), .d (iD o)] [(2, some (wkF w 3 F)), (3, some (dblk 4 ((List.range w).map fun j => Ps.l (rf j))))] 12 fun v H n' => v = .d (.tup [iD 1, iD 0]) ∧ H.get 2 = some (wkF w 12 F) ∧ H.get 12 = some (dblk 4 ((redRows (rowsL w (prjF rf (zP w n o) a0 R)) (2 * w)).map Ps.l)) ∧ n' = 13 := by
 have hsh : ishl .i64 1 (n : Int) = ((2 ^ n : Nat) : Int) := zbw (by omega)
 have him : imul .i64 2 (o : Int) = ((2 * o : Nat) : Int) := zd2 (a := 2) (by omega)
 have hPv := zpy hw.2 hvl hpv (zfz hA).1 (R := R)
 have hcan := zhe (G := GG) hw (rowsL w (prjF rf (zP w n o) a0 R)) true (by simp; omega) (fun q hq => by
  obtain ⟨j, hj, rfl⟩ := List.mem_map.1 hq
  exact hPv j (List.mem_range.1 hj))
 obtain ⟨sp1, sp2, sp3, sp4⟩ := zfz hA
 have hno : (∀ j, j < w → comV (zP w n o) (rf j) = true) → False := fun h => by
  have := h a0 sp1
  rw [sp2] at this; cases this
 have hcan2 : PO Pr GG 105 [.agg [iD w, .sl ((List.range w).map fun j => Ps.l (prjF rf (zP w n o) a0 R j)) true]] (.agg [.d (iD w), .sl 0 4 0 w w true]) [(0, some (dblk 4 ((redRows (rowsL w (prjF rf (zP w n o) a0 R)) (2 * w)).map Ps.l)))] 1 := by
  have eR : (rowsL w (prjF rf (zP w n o) a0 R)).map Ps.l = (List.range w).map fun j => Ps.l (prjF rf (zP w n o) a0 R j) := by unfold rowsL; rw [List.map_map]; rfl
  have eL : (rowsL w (prjF rf (zP w n o) a0 R)).length = w := by simp
  rw [← eR]
  rw [eL] at hcan
  exact hcan
 clear hcan
 have hRm : ∀ j, j ∈ R ↔ j < w ∧ j ≠ a0 ∧ comV (zP w n o) (rf j) = false := fun j => by
  have hm : j ∈ a0 :: R ↔ j < w ∧ comV (zP w n o) (rf j) = false := by
   rw [← hA]; unfold antL; rw [List.mem_filter, List.mem_range]; simp
  have hnd : (a0 :: R).Nodup := by rw [← hA]; exact (List.nodup_range).filter _
  have haR : a0 ∉ R := (List.nodup_cons.1 hnd).1
  constructor
  ·intro h
   have := hm.1 (List.mem_cons_of_mem _ h)
   exact ⟨this.1, fun q => haR (q ▸ h), this.2⟩
  ·rintro ⟨h1, h2, h3⟩
   rcases List.mem_cons.1 (hm.2 ⟨h1, h3⟩) with q | q
   ·exact absurd q h2
   ·exact q
 have hB0 : chkCode Tryz.f136.ntmps (rgI Tryz.f136 0).2 = true := by kernel_rfl
 have hB1 : chkCode Tryz.f136.ntmps (rgI Tryz.f136 1).2 = true := by kernel_rfl
 refine zbf (za2 pok Tryz.func136 zim (K := fun v H m => v = .d (.tup [iD 1, iD 0]) ∧ H.get 2 = some (wkF w 24 F) ∧ H.get 24 = some (dblk 4 ((redRows (rowsL w (prjF rf (zP w n o) a0 R)) (2 * w)).map Ps.l))) ?_) ?_
 ·conv => whnf
  repeat' first | ((first | refine LookP.mk _ (by first | rfl | exact lendW rfl (by simp)) ?_ | refine ShlP.mk _ (by first | (simp only [List.set, over, List.take, List.drop, List.append_eq, List.nil_append, List.cons_append, List.length]; rfl) | rfl) ?_ | refine And.intro (by first | assumption | exact ⟨by kernel_rfl, rfl⟩ | decide | omega) ?_ | rw [hsh] | rw [him] | refine zdx (l := [3]) (ze5 rfl rfl (show _ = some (dblk 4 ((List.range w).map fun j => Ps.l (rf j))) from rfl)) ?_ | refine zaq hx2 ?_ | refine zqs rfl ?_ | refine HpP.force ?_); conv => whnf)
  refine za9 pok Tryz.func195 zs1 ?_
  conv => whnf
  skip
  refine za9 pok Tryz.func247 zs0 ?_
  conv => whnf
  repeat' first | (refine LookP.mk _ rfl ?_; conv => whnf)
  refine zar pok (fun i => ⟨[(0, .yld 18), (4, .d (.fn 114 [.agg [iD w, iD 0, iD ((2 ^ n : Nat) : Int), iD ((2 * o : Nat) : Int)]] [])), (14, .sl 3 4 0 w w true), (15, .d (iD w)), (16, .d (iD i))], [(2, some (wkF w 3 F)), (3, some (dblk 4 ((List.range w).map fun j => Ps.l (rf j)))), (12, some (.arr 1 [[.ptr 2 3 0 0]])), (13, some (.arr 4 [[.d (iD w), .d (iD 0), .d (iD ((2 ^ n : Nat) : Int)), .d (iD ((2 * o : Nat) : Int))]])), (14, some (.arr 1 [[.d (iD (-1))]])), (15, some (.arr 1 [[.ptr 2 3 0 0]])), (16, some (.arr 4 [[.d (iD w), .d (iD 0), .d (iD ((2 ^ n : Nat) : Int)), .d (iD ((2 * o : Nat) : Int))]])), (17, some (.raw (.deferred (some [])))), (18, some (.lp [(34, .fn 247 [] [.ptr 16 4 0 0, .ptr 15 1 0 0]), (33, .d (.agg [iD w, iD 0, iD ((2 ^ n : Nat) : Int), iD ((2 * o : Nat) : Int)])), (32, .ptr 2 3 0 0), (9, .ptr 14 1 0 0), (30, .d (.bool false)), (31, .d (.bool false)), (28, .d (.bool false)), (29, .d (.bool false)), (27, .d (iD 0)), (26, .d (.agg [iD w, iD 0, iD ((2 ^ n : Nat) : Int), iD ((2 * o : Nat) : Int)])), (25, .agg [.d (iD w), .sl 3 4 0 w w true]), (24, .ptr 2 3 0 0), (23, .ptr 2 3 0 0), (22, .ptr 2 3 0 0), (8, .ptr 13 4 0 0), (21, .d (.agg [iD w, iD 0, iD ((2 ^ n : Nat) : Int), iD ((2 * o : Nat) : Int)])), (20, .d (iD ((2 * o : Nat) : Int))), (19, .d (iD o)), (18, .d (iD ((2 ^ n : Nat) : Int))), (17, .d (iD n)), (16, .d (iD w)), (15, .ptr 2 3 0 0), (14, .ptr 2 3 0 0), (13, .ptr 2 3 0 0), (12, .ptr 2 3 0 0), (7, .d (iD 0)), (6, .d (iD 0)), (3, .ptr 12 1 0 0), (0, .ptr 2 3 0 0), (1, .d (iD n)), (2, .d (iD o))] Tryz.f136.ntmps #[35] (rgI Tryz.f136 0).1 (rgI Tryz.f136 0).2 .ready none 17))], 19⟩) (w) (fun i => ∀ j, j < i → comV (zP w n o) (rf j) = true) (by omega) ?_ (by kernel_rfl) ?_ ?_
  ·refine zad (by first | exact Nat.zero_le _ | exact Nat.le_of_ble_eq_true rfl) ?_ ?_ trivial
   ·repeat' first | exact trivial | refine ⟨⟨by first | rfl | assumption, rfl⟩, ?_⟩
   ·repeat' first | exact trivial | refine ⟨⟨ltB rfl, _, rfl, by first | rfl | assumption, by first | exact zaf rfl | exact zaa _ _ _ | exact zab rfl | exact trivial | exact ⟨rfl, Nat.le_of_ble_eq_true rfl⟩⟩, ?_⟩
  ·intro i A_i h_i I_i N_i
   have e_i : iadd .i64 (i : Int) 1 = ((i + 1 : Nat) : Int) := zai (by first | omega | (simp at *; omega))
   have hc := zje (G := GG) hw hpv (hvl i h_i)
   cases hb : comV (zP w n o) (rf i) with
   | true =>
    rw [hb] at hc
    conv => whnf
    repeat (refine LookP.mk _ rfl ?_; conv => whnf)
    intro t ht
    cases t
    ·exfalso; first | (simp at ht; done) | (simp at ht; omega)
    conv => whnf
    repeat' first | ((first | refine LookP.mk _ (by first | rfl | exact zd4 h_i) ?_ | refine ShlP.mk _ (by first | (simp only [List.set, over, List.take, List.drop, List.append_eq, List.nil_append, List.cons_append, List.length]; rfl) | rfl) ?_ | refine And.intro (by first | assumption | exact ⟨by kernel_rfl, rfl⟩ | decide | omega) ?_ | refine zaj hc ?_ | refine HpP.force ?_); conv => whnf)
    refine N_i _ ?_ ?_
    ·(intro j hj; rcases Nat.lt_or_ge j i with h | h; exact I_i j h; rw [show j = i by omega]; exact hb)
    ·refine zad (by first | exact Nat.zero_le _ | exact Nat.le_of_ble_eq_true rfl) ?_ ?_ trivial
     ·repeat' first | exact trivial | refine ⟨⟨by first | rfl | assumption | exact congrArg (fun n => AV.d (iD n)) e_i, rfl⟩, ?_⟩
     ·repeat' first | exact trivial | refine ⟨⟨ltB rfl, _, rfl, by first | rfl | assumption, by first | exact zaf rfl | exact zaa _ _ _ | exact zab rfl | exact trivial | exact ⟨rfl, Nat.le_of_ble_eq_true rfl⟩⟩, ?_⟩
   | false =>
    rw [hb] at hc
    have hia : i = a0 := by
     rcases Nat.lt_trichotomy i a0 with q | q | q
     ·have := sp3 i q
      rw [hb] at this; cases this
     ·exact q
     ·have := I_i a0 q
      rw [sp2] at this; cases this
    conv => whnf
    repeat (refine LookP.mk _ rfl ?_; conv => whnf)
    intro t ht
    cases t
    ·exfalso; first | (simp at ht; done) | (simp at ht; omega)
    conv => whnf
    repeat' first | ((first | refine LookP.mk _ (by first | rfl | exact zd4 h_i) ?_ | refine ShlP.mk _ (by first | (simp only [List.set, over, List.take, List.drop, List.append_eq, List.nil_append, List.cons_append, List.length]; rfl) | rfl) ?_ | refine And.intro (by first | assumption | exact ⟨by kernel_rfl, rfl⟩ | decide | omega) ?_ | refine zaj hc ?_ | refine HpP.force ?_); conv => whnf)
    refine zba pok ?_
    conv => whnf
    repeat' first | ((first | refine LookP.mk _ rfl ?_ | refine ShlP.mk _ (by first | (simp only [List.set, over, List.take, List.drop, List.append_eq, List.nil_append, List.cons_append, List.length]; rfl) | rfl) ?_ | refine HpP.force ?_); conv => whnf)
    refine za9 pok Tryz.func195 zs1 ?_
    conv => whnf
    skip
    refine za9 pok Tryz.func247 zs0 ?_
    conv => whnf
    repeat' first | (refine LookP.mk _ rfl ?_; conv => whnf)
    refine zar pok (fun m => ⟨[(0, .yld 23), (4, .d (.fn 114 [.agg [iD w, iD 0, iD ((2 ^ n : Nat) : Int), iD ((2 * o : Nat) : Int)]] [])), (14, .sl 3 4 0 w w true), (15, .d (iD w)), (16, .d (iD m))], [(2, some (wkF w 3 F)), (3, some (dblk 4 ((List.range w).map fun j => Ps.l (prS (zP w n o) rf a0 m j)))), (12, some (.arr 1 [[.ptr 2 3 0 0]])), (13, some (.arr 4 [[.d (iD w), .d (iD 0), .d (iD ((2 ^ n : Nat) : Int)), .d (iD ((2 * o : Nat) : Int))]])), (14, some (.arr 1 [[.d (iD a0)]])), (17, some (.raw (.deferred (some [])))), (20, some (.arr 1 [[.ptr 2 3 0 0]])), (21, some (.arr 4 [[.d (iD w), .d (iD 0), .d (iD ((2 ^ n : Nat) : Int)), .d (iD ((2 * o : Nat) : Int))]])), (22, some (.raw (.deferred (some [])))), (23, some (.lp [(39, .fn 247 [] [.ptr 21 4 0 0, .ptr 20 1 0 0]), (38, .d (.agg [iD w, iD 0, iD ((2 ^ n : Nat) : Int), iD ((2 * o : Nat) : Int)])), (37, .ptr 2 3 0 0), (34, .fn 247 [] [.ptr 16 4 0 0, .ptr 15 1 0 0]), (33, .d (.agg [iD w, iD 0, iD ((2 ^ n : Nat) : Int), iD ((2 * o : Nat) : Int)])), (32, .ptr 2 3 0 0), (9, .ptr 14 1 0 0), (30, .d (.bool false)), (31, .d (.bool false)), (28, .d (.bool false)), (29, .d (.bool false)), (27, .d (iD 0)), (26, .d (.agg [iD w, iD 0, iD ((2 ^ n : Nat) : Int), iD ((2 * o : Nat) : Int)])), (25, .agg [.d (iD w), .sl 3 4 0 w w true]), (24, .ptr 2 3 0 0), (23, .ptr 2 3 0 0), (22, .ptr 2 3 0 0), (8, .ptr 13 4 0 0), (21, .d (.agg [iD w, iD 0, iD ((2 ^ n : Nat) : Int), iD ((2 * o : Nat) : Int)])), (20, .d (iD ((2 * o : Nat) : Int))), (19, .d (iD o)), (18, .d (iD ((2 ^ n : Nat) : Int))), (17, .d (iD n)), (16, .d (iD w)), (15, .ptr 2 3 0 0), (14, .ptr 2 3 0 0), (13, .ptr 2 3 0 0), (12, .ptr 2 3 0 0), (7, .d (iD 0)), (6, .d (iD 0)), (3, .ptr 12 1 0 0), (0, .ptr 2 3 0 0), (1, .d (iD n)), (2, .d (iD o))] Tryz.f136.ntmps #[40] (rgI Tryz.f136 1).1 (rgI Tryz.f136 1).2 .ready none 22))], 24⟩) (w) (fun _ => True) (trivial) ?_ (by kernel_rfl) ?_ ?_
    ·refine zad (by first | exact Nat.zero_le _ | exact Nat.le_of_ble_eq_true rfl) ?_ ?_ trivial
     ·repeat' first | exact trivial | refine ⟨⟨by first | rfl | assumption, rfl⟩, ?_⟩
     ·repeat' first | exact trivial | refine ⟨⟨ltB rfl, _, rfl, by first | rfl | assumption | exact congrArg some (zbh fun j => by rw [prS_0]) | (rw [hia]; rfl), by first | exact zaf rfl | exact zaa _ _ _ | exact zab rfl | exact trivial | exact ⟨rfl, Nat.le_of_ble_eq_true rfl⟩⟩, ?_⟩
    ·intro m A_m h_m I_m N_m
     have e_m : iadd .i64 (m : Int) 1 = ((m + 1 : Nat) : Int) := zai (by first | omega | (simp at *; omega))
     have hcm := zje (G := GG) hw hpv (hvl m h_m)
     have hst : ∀ j, (if j = m then Ps.l (prS (zP w n o) rf a0 (m + 1) m) else Ps.l (prS (zP w n o) rf a0 m j)) = Ps.l (prS (zP w n o) rf a0 (m + 1) j) := fun j => zrt j
     have hgm : (fun j => Ps.l (prS (zP w n o) rf a0 m j)) m = Ps.l (rf m) := by dsimp only; rw [prS_at]
     cases hbm : comV (zP w n o) (rf m) with
     | true =>
      rw [hbm] at hcm
      have hsame : ∀ j, Ps.l (prS (zP w n o) rf a0 m j) = Ps.l (prS (zP w n o) rf a0 (m + 1) j) := fun j => by rw [ziz (.inl hbm)]
      generalize prS (zP w n o) rf a0 m = g at hgm hsame hst
      conv => whnf
      repeat (refine LookP.mk _ rfl ?_; conv => whnf)
      intro t ht
      cases t
      ·exfalso; first | (simp at ht; done) | (simp at ht; omega)
      conv => whnf
      repeat' first | ((first | refine LookP.mk _ (by first | rfl | exact zbx h_m hgm) ?_ | refine ShlP.mk _ (by first | (simp only [List.set, over, List.take, List.drop, List.append_eq, List.nil_append, List.cons_append, List.length]; rfl) | rfl) ?_ | refine And.intro (by first | assumption | exact ⟨by kernel_rfl, rfl⟩ | decide | omega) ?_ | refine zaj hcm ?_ | refine HpP.force ?_); conv => whnf)
      refine N_m _ ?_ ?_
      ·first | trivial | assumption | omega
      ·refine zad (by first | exact Nat.zero_le _ | exact Nat.le_of_ble_eq_true rfl) ?_ ?_ trivial
       ·repeat' first | exact trivial | refine ⟨⟨by first | rfl | assumption | exact congrArg (fun n => AV.d (iD n)) e_m, rfl⟩, ?_⟩
       ·repeat' first | exact trivial | refine ⟨⟨ltB rfl, _, rfl, by first | rfl | assumption | exact congrArg some (zbh hsame), by first | exact zaf rfl | exact zaa _ _ _ | exact zab rfl | exact trivial | exact ⟨rfl, Nat.le_of_ble_eq_true rfl⟩⟩, ?_⟩
     | false =>
      rw [hbm] at hcm
      by_cases hma : m = a0
      ·have hsame : ∀ j, Ps.l (prS (zP w n o) rf a0 m j) = Ps.l (prS (zP w n o) rf a0 (m + 1) j) := fun j => by rw [ziz (.inr hma)]
       generalize prS (zP w n o) rf a0 m = g at hgm hsame hst
       generalize prS (zP w n o) rf a0 (m + 1) = g' at hsame hst N_m
       subst hma
       conv => whnf
       repeat (refine LookP.mk _ rfl ?_; conv => whnf)
       intro t ht
       cases t
       ·exfalso; first | (simp at ht; done) | (simp at ht; omega)
       conv => whnf
       repeat' first | ((first | refine LookP.mk _ (by first | rfl | exact zbx h_m hgm) ?_ | refine ShlP.mk _ (by first | (simp only [List.set, over, List.take, List.drop, List.append_eq, List.nil_append, List.cons_append, List.length]; rfl) | rfl) ?_ | refine And.intro (by first | assumption | exact ⟨by kernel_rfl, rfl⟩ | decide | omega) ?_ | refine zaj hcm ?_ | refine HpP.force ?_); conv => whnf)
       refine zba pok ?_
       conv => whnf
       repeat' first | ((first | refine LookP.mk _ rfl ?_ | rw [hB1] | refine bneT ?_); conv => whnf)
       refine N_m _ ?_ ?_
       ·first | trivial | assumption | omega
       ·refine zad (by first | exact Nat.zero_le _ | exact Nat.le_of_ble_eq_true rfl) ?_ ?_ trivial
        ·repeat' first | exact trivial | refine ⟨⟨by first | rfl | assumption | exact congrArg (fun n => AV.d (iD n)) e_m, rfl⟩, ?_⟩
        ·repeat' first | exact trivial | refine ⟨⟨ltB rfl, _, rfl, by first | rfl | assumption | exact congrArg some (zbh hsame), by first | exact zaf rfl | exact zaa _ _ _ | exact zab rfl | exact trivial | exact ⟨rfl, Nat.le_of_ble_eq_true rfl⟩⟩, ?_⟩
      ·have hma' : (m : Int) ≠ a0 := by omega
       have hta := zec (G := GG) hw (rf m) [rf a0] true (by simp) (hvl m h_m) (by intro r hr; rw [List.mem_singleton.1 hr]; exact hvl a0 sp1)
       have hme2 : ([rf a0].foldl mulS (rf m)) = prS (zP w n o) rf a0 (m + 1) m := (zv2 hma hbm).symm
       rw [hme2] at hta
       have hga : prS (zP w n o) rf a0 m a0 = rf a0 := zru
       generalize prS (zP w n o) rf a0 m = g at hgm hst hga
       generalize hg1 : prS (zP w n o) rf a0 (m + 1) = g' at hst hta N_m
       generalize hr' : g' m = r' at hta hst
       have hst2 : ∀ j, (if j = m then [iD r'.w, iD r'.x, iD r'.z, iD r'.p] else Ps.l (g j)) = Ps.l (g' j) := hst
       have hgA : (fun j => Ps.l (g j)) a0 = Ps.l (rf a0) := by dsimp only; rw [hga]
       conv => whnf
       repeat (refine LookP.mk _ rfl ?_; conv => whnf)
       intro t ht
       cases t
       ·exfalso; first | (simp at ht; done) | (simp at ht; omega)
       conv => whnf
       repeat' first | ((first | refine LookP.mk _ (by first | rfl | exact zbx h_m hgm) ?_ | refine ShlP.mk _ (by first | (simp only [List.set, over, List.take, List.drop, List.append_eq, List.nil_append, List.cons_append, List.length]; rfl) | rfl) ?_ | refine And.intro (by first | assumption | exact ⟨by kernel_rfl, rfl⟩ | decide | omega) ?_ | refine zaj hcm ?_ | refine HpP.force ?_); conv => whnf)
       refine zba pok ?_
       conv => whnf
       repeat' first | ((first | refine LookP.mk _ (by first | rfl | exact zbx h_m hgm | exact zbx sp1 hgA) ?_ | refine ShlP.mk _ (by first | exact ze2 (x := [_, _, _, _]) h_m | (simp only [List.set, over, List.take, List.drop, List.append_eq, List.nil_append, List.cons_append, List.length]; rfl) | rfl) ?_ | refine And.intro (by first | exact ⟨Int.natCast_nonneg _, by omega⟩ | assumption | exact ⟨by kernel_rfl, rfl⟩ | decide | omega) ?_ | rw [hB1] | refine bneF hma' ?_ | refine zaq hta ?_ | refine HpP.force ?_); conv => whnf)
       refine N_m _ ?_ ?_
       ·first | trivial | assumption | omega
       ·refine zad (by first | exact Nat.zero_le _ | exact Nat.le_of_ble_eq_true rfl) ?_ ?_ trivial
        ·repeat' first | exact trivial | refine ⟨⟨by first | rfl | assumption | exact congrArg (fun n => AV.d (iD n)) e_m, rfl⟩, ?_⟩
        ·repeat' first | exact trivial | refine ⟨⟨ltB rfl, _, rfl, by first | rfl | assumption | exact congrArg some (zbh hst2), by first | exact zaf rfl | exact zaa _ _ _ | exact zab rfl | exact trivial | exact ⟨rfl, Nat.le_of_ble_eq_true rfl⟩⟩, ?_⟩
    ·intro A_last I_last
     have hfin : ∀ j, (if j = a0 then [iD w, iD 0, iD ((2 ^ n : Nat) : Int), iD ((2 * o : Nat) : Int)] else Ps.l (prS (zP w n o) rf a0 w j)) = Ps.l (prjF rf (zP w n o) a0 R j) := fun j => by
      unfold prjF prjR prS
      by_cases h : j = a0
      ·rw [if_pos h, if_pos h]; rfl
      ·rw [if_neg h, if_neg h]
       by_cases hr : j ∈ R
       ·rw [if_pos hr, if_pos ((hRm j).1 hr)]
       ·rw [if_neg hr, if_neg fun q => hr ((hRm j).2 q)]
     have hgA : (fun j => Ps.l (prS (zP w n o) rf a0 w j)) a0 = Ps.l (rf a0) := by dsimp only; rw [zru]
     generalize prS (zP w n o) rf a0 w = g at hfin hgA
     generalize prjF rf (zP w n o) a0 R = g' at hfin hcan2 ⊢
     conv => whnf
     repeat (refine LookP.mk _ rfl ?_; conv => whnf)
     intro t ht
     cases t
     rotate_left
     ·exfalso; first | (simp at ht; done) | (simp at ht; omega)
     conv => whnf
     repeat' first | ((first | refine LookP.mk _ (by first | rfl | exact zbx sp1 hgA | exact lendA (congrArg some (zbh hfin)) (by simp)) ?_ | refine ShlP.mk _ (by first | exact ze2 (x := [_, _, _, _]) sp1 | (simp only [List.set, over, List.take, List.drop, List.append_eq, List.nil_append, List.cons_append, List.length]; rfl) | rfl) ?_ | refine And.intro (by first | exact ⟨Int.natCast_nonneg _, by omega⟩ | assumption | exact ⟨by kernel_rfl, rfl⟩ | decide | omega) ?_ | refine zdx (l := [3]) (ze5 rfl rfl (show _ = some (dblk 4 ((List.range w).map fun j => Ps.l (g' j))) from congrArg some (zbh hfin))) ?_ | refine zv5 hcan2 ?_ | rw [zop] | refine ShhP.mk _ rfl ?_ | refine HpP.force ?_); conv => whnf)
     refine fin ⟨rfl, rfl, ?_⟩
     show some (Blk.ren _ (dblk 4 _)) = _
     rw [zbv]
  ·intro A_last I_last
   exact (hno I_last).elim
 ·rintro v H m ⟨rfl, h2, h3⟩
  refine ⟨.d (.tup [iD 1, iD 0]), [(2, some (wkF w 12 F)), (12, some (dblk 4 ((redRows (rowsL w (prjF rf (zP w n o) a0 R)) (2 * w)).map Ps.l)))], 13, ?_, rfl, rfl, rfl, rfl⟩
  first | refine za5 [(2, 2), (12, 24)] ?_ ?_ ?_ trivial | refine zau [(2, 2), (12, 24)] rfl rfl ?_ ?_ ?_ trivial
  ·repeat' first | exact trivial | refine ⟨⟨by first | rfl | assumption, rfl⟩, ?_⟩
  ·repeat' first | exact trivial | refine ⟨⟨ltB rfl, _, rfl, by first | rfl | assumption | exact zag rfl (by first | rfl | assumption | exact h2 | exact zag rfl h3 | exact zag rfl h2) | exact h2 | exact zag rfl h3 | exact zag rfl h2, by first | exact zaf rfl | exact zaa _ _ _ | exact zab rfl⟩, ?_⟩
  ·repeat' first | exact trivial | (refine And.intro ?_ ?_) | (exact fun _ => rfl) | (exact fun h => absurd h (Nat.ne_of_beq_eq_false rfl))
end Go.Tz
namespace Go.Tz
open Go Go.AL Go.Proofs Go.Ma
abbrev mK (w : Nat) (F : FuncId) (v : AV) (nm : Nat) (R : List Ps) : AV → AHeap → Nat → Prop := fun v' H n' => v' = v ∧ H.get 2 = some (wkF w nm F) ∧ H.get nm = some (dblk 4 (R.map Ps.l)) ∧ n' = 13
abbrev mA (w : Nat) (F : FuncId) (L : List Ps) : AHeap := [(2, some (wkF w 3 F)), (3, some (dblk 4 (L.map Ps.l)))]
abbrev rV (n e : Int) : AV := .d (.tup [iD n, iD e])
theorem zj1 {w n o : Nat} {L : List Ps} (hs : SOk w L) (hn : n < w) (ho : o ≤ 1) (F : FuncId) {e r : Int} (he : expP L (zP w n o) = e) (h : (e = 1 ∧ r = 0) ∨ (e = -1 ∧ r = 6)) :
  ACall Pr GG 136 [.ptr 2 3 0 0, .d (iD n), .d (iD o)] (mA w F L) 12 (mK w F (rV 0 r) 3 L) := by
 have hlen := hs.len
 have hhi := hs.hi
 have hpv := zku hn ho
 have hx := zep hs true hpv
 rw [he] at hx
 have hsh : ishl .i64 1 (n : Int) = ((2 ^ n : Nat) : Int) := zbw (by omega)
 have him : imul .i64 2 (o : Int) = ((2 * o : Nat) : Int) := zd2 (a := 2) (by omega)
 have hx2 : PC Pr GG 107 [.agg [iD w, .sl (L.map Ps.l) true], (zP w n o).d] (iD e) := hx
 clear he hx
 rcases h with ⟨rfl, rfl⟩ | ⟨rfl, rfl⟩
 ·refine zbf (za2 pok Tryz.func136 zim (K := fun v H m => v = rV 0 0 ∧ H.get 2 = some (wkF w 3 F) ∧ H.get 3 = some (dblk 4 (L.map Ps.l))) ?_) ?_
  ·conv => whnf
   repeat' first | ((first | refine LookP.mk _ (by first | rfl | exact lendW rfl (by rw [List.length_map, hlen])) ?_ | refine ShlP.mk _ (by first | (simp only [List.set, over, List.take, List.drop, List.append_eq, List.nil_append, List.cons_append, List.length]; rfl) | rfl) ?_ | refine And.intro (by first | assumption | exact ⟨by kernel_rfl, rfl⟩ | decide | omega) ?_ | rw [hsh] | rw [him] | refine zdx (l := [3]) (ze5 rfl rfl (show _ = some (dblk 4 (L.map Ps.l)) from rfl)) ?_ | refine zaq hx2 ?_ | refine zqr ?_ | refine HpP.force ?_); conv => whnf)
   exact fin ⟨rfl, rfl, rfl⟩
  ·rintro v H m ⟨rfl, h2, h3⟩
   refine ⟨rV 0 0, mA w F L, 13, ?_, rfl, rfl, rfl, rfl⟩
   first | refine za5 [(2, 2), (3, 3)] ?_ ?_ ?_ trivial | refine zau [(2, 2), (3, 3)] rfl rfl ?_ ?_ ?_ trivial
   ·repeat' first | exact trivial | refine ⟨⟨by first | rfl | assumption, rfl⟩, ?_⟩
   ·repeat' first | exact trivial | refine ⟨⟨ltB rfl, _, rfl, by first | rfl | assumption | exact zag rfl (by first | rfl | assumption | exact zag rfl h3 | exact zag rfl h2) | exact zag rfl h3 | exact zag rfl h2, by first | exact zaf rfl | exact zaa _ _ _ | exact zab rfl⟩, ?_⟩
   ·repeat' first | exact trivial | (refine And.intro ?_ ?_) | (exact fun _ => rfl) | (exact fun h => absurd h (Nat.ne_of_beq_eq_false rfl))
 ·refine zbf (za2 pok Tryz.func136 zim (K := fun v H m => v = rV 0 6 ∧ H.get 2 = some (wkF w 3 F) ∧ H.get 3 = some (dblk 4 (L.map Ps.l))) ?_) ?_
  ·conv => whnf
   repeat' first | ((first | refine LookP.mk _ (by first | rfl | exact lendW rfl (by rw [List.length_map, hlen])) ?_ | refine ShlP.mk _ (by first | (simp only [List.set, over, List.take, List.drop, List.append_eq, List.nil_append, List.cons_append, List.length]; rfl) | rfl) ?_ | refine And.intro (by first | assumption | exact ⟨by kernel_rfl, rfl⟩ | decide | omega) ?_ | rw [hsh] | rw [him] | refine zdx (l := [3]) (ze5 rfl rfl (show _ = some (dblk 4 (L.map Ps.l)) from rfl)) ?_ | refine zaq hx2 ?_ | refine zqr ?_ | refine zqs rfl ?_ | refine HpP.force ?_); conv => whnf)
   exact fin ⟨rfl, rfl, rfl⟩
  ·rintro v H m ⟨rfl, h2, h3⟩
   refine ⟨rV 0 6, mA w F L, 13, ?_, rfl, rfl, rfl, rfl⟩
   first | refine za5 [(2, 2), (3, 3)] ?_ ?_ ?_ trivial | refine zau [(2, 2), (3, 3)] rfl rfl ?_ ?_ ?_ trivial
   ·repeat' first | exact trivial | refine ⟨⟨by first | rfl | assumption, rfl⟩, ?_⟩
   ·repeat' first | exact trivial | refine ⟨⟨ltB rfl, _, rfl, by first | rfl | assumption | exact zag rfl (by first | rfl | assumption | exact zag rfl h3 | exact zag rfl h2) | exact zag rfl h3 | exact zag rfl h2, by first | exact zaf rfl | exact zaa _ _ _ | exact zab rfl⟩, ?_⟩
   ·repeat' first | exact trivial | (refine And.intro ?_ ?_) | (exact fun _ => rfl) | (exact fun h => absurd h (Nat.ne_of_beq_eq_false rfl))
theorem zp3 {w n o : Nat} {L : List Ps} (hs : SOk w L) (hn : n < w) (ho : o ≤ 1) (F : FuncId) {a0 : Nat} {R : List Nat} (he : expP L (zP w n o) = 0) (hA : antL (zP w n o) (fun j => L.getD j Ps.z0) w = a0 :: R) :
  ACall Pr GG 136 [.ptr 2 3 0 0, .d (iD n), .d (iD o)] (mA w F L) 12 (mK w F (rV 1 0) 12 (redRows (rowsL w (prjF (fun j => L.getD j Ps.z0) (zP w n o) a0 R)) (2 * w))) := by
 have hlen := hs.len
 have hpv := zku hn ho
 have hx := zep hs true hpv
 rw [he] at hx
 have hvl : ∀ j, j < w → Vl w (L.getD j Ps.z0) := fun j hj => by
  rw [List.getD_eq_getElem?_getD, List.getElem?_eq_getElem (by rw [hlen]; exact hj), Option.getD_some]
  exact hs.vl _ (List.getElem_mem _)
 have hLm : L.map Ps.l = (List.range w).map fun j => Ps.l ((fun j => L.getD j Ps.z0) j) := by
  have := zjr L hlen
  conv => lhs; rw [← this]
  unfold rowsL; rw [List.map_map]; rfl
 have hx2 : PC Pr GG 107 [.agg [iD w, .sl (L.map Ps.l) true], (zP w n o).d] (iD 0) := hx
 unfold mA
 rw [hLm] at hx2 ⊢
 exact zp4 ⟨hs.lo, hs.hi⟩ hn ho F hpv hvl hA hx2
structure WC (f : FuncId) (args : List AV) (w : Nat) (F : FuncId) (L : List Ps) (v : AV) (nm : Nat) (R : List Ps) : Prop where
 fn : IsFn Pr f
 call : ACall Pr GG f args (mA w F L) 12 (mK w F v nm R)
theorem zuw {f : FuncId} {args : List AV} {w nm nx : Nat} {F : FuncId} {L R : List Ps} {v : AV} {H : AHeap} {k : AV → AHeap → Nat → Prop} (h : WC f args w F L v nm R) (hn : nx ≤ 12)
  (h2 : H.get 2 = some (wkF w 3 F)) (h3 : H.get 3 = some (dblk 4 (L.map Ps.l))) (hk : k v ((2, some (wkF w nm F)) :: (nm, some (dblk 4 (R.map Ps.l))) :: AHeap.del H 3) 13) : CallVC Pr GG f args H nx k := by
 refine ⟨h.fn, zbp h.call hn (fun m b hg => ?_) ?_⟩
 ·rw [zah, zah] at hg
  by_cases e2 : m = 2
  ·rw [if_pos e2] at hg; rw [e2, h2, hg]
  ·rw [if_neg e2] at hg
   by_cases e3 : m = 3
   ·rw [if_pos e3] at hg; rw [e3, h3, hg]
   ·rw [if_neg e3] at hg; cases hg
 ·rintro v' H1 n' ⟨rfl, g2, g3, rfl⟩
  refine ⟨_, fun m b hg => ?_, hk⟩
  rw [zah, zah] at hg
  by_cases e2 : m = 2
  ·rw [if_pos e2] at hg; exact .inl (by rw [e2, g2, hg])
  ·rw [if_neg e2] at hg
   by_cases e3 : m = nm
   ·rw [if_pos e3] at hg; exact .inl (by rw [e3, g3, hg])
   ·rw [if_neg e3, za8] at hg
    by_cases e4 : m = 3
    ·rw [if_pos e4] at hg; cases hg
    ·rw [if_neg e4] at hg
     refine .inr ⟨?_, hg⟩
     rw [zah, zah, if_neg e2, if_neg e4]; rfl
end Go.Tz
namespace Go.Tz
open Go Go.AL Go.Proofs Go.Ma
abbrev wA (n o : Nat) : List AV := [.ptr 2 3 0 0, .d (iD n), .d (iD o)]
theorem meas {w n o : Nat} {l r : List Ps} (h : SOk w l) (h' : SOk w r) (hg : SameG (r.map nf) (l.map nf)) (hn : n < w) (ho : o ≤ 1) (F : FuncId) :
  (expR w l (zP w n o) = 1 ∧ WC 136 (wA n o) w F r (rV 0 0) 3 r) ∨ (expR w l (zP w n o) = -1 ∧ WC 136 (wA n o) w F r (rV 0 6) 3 r) ∨
  (expR w l (zP w n o) = 0 ∧ SOk w (prjL (zP w n o) l) ∧ WC 136 (wA n o) w F r (rV 1 0) 12 (redRows (prjL (zP w n o) l) (2 * w))) := by
 have hpv := zku hn ho
 have hok := zur h.hi hn ho
 obtain ⟨e1, e2⟩ := zws h h' hg hpv hok
 have hf := za0 Tryz.func136 zim
 rcases zdu (zh2 h hpv hok) with ⟨a, _⟩ | ⟨a, _⟩ | ⟨a, _⟩
 ·exact .inl ⟨a, hf, zj1 h' hn ho F (e1.trans a) (.inl ⟨rfl, rfl⟩)⟩
 ·exact .inr (.inl ⟨a, hf, zj1 h' hn ho F (e1.trans a) (.inr ⟨rfl, rfl⟩)⟩)
 ·obtain ⟨b, a0, R, hA, _, hR⟩ := e2 a
  refine .inr (.inr ⟨a, b, hf, ?_⟩)
  rw [← hR]
  exact zp3 h' hn ho F (e1.trans a) hA
end Go.Tz
namespace Go.Tz
open Go Go.AL Go.Proofs Go.Ma
def findReg (k : Nat) : Code → Option (Array Oper)
 | .region id ops _ => if id = k then some ops else none
 | .seq c d => (findReg k c).orElse fun _ => findReg k d
 | .cond _ c d => (findReg k c).orElse fun _ => findReg k d
 | .block _ c => findReg k c
 | .loop c => findReg k c
 | .scope c => findReg k c
 | _ => none
variable {ks : List (Nat × AV)} {hs : List (Nat × Blk)} {w nm : Nat} {f : FuncId} {A R : List Ps} {n o : Nat} {ug : Bool} {ch x : Int}
end Go.Tz
namespace Go.Tz
open Go Go.AL Go.Proofs Go.Ma
theorem zyk {α : Type} {f : α → Prop} : ∀ {l : List α}, (∀ a, a ∈ l → f a) → AllP f l
 | [], _ => trivial
 | _ :: _, h => ⟨h _ (by simp), zyk fun a ha => h a (by simp [ha])⟩
variable {w nm : Nat} {f : FuncId} {A R : List Ps} {n o : Nat} {ug : Bool} {ch x : Int}
end Go.Tz
namespace Go.Tz
open Go Go.AL Go.Proofs Go.Ma
def xv (v : Nat) : Nat := v % 4096
def phE (e : E) (b : Nat) : Nat := (e.1 + 2 * (bt e.2 b).toNat) % 4
theorem zlk {u v : Nat} : ∀ k, (∀ i, i < k → u.testBit i = v.testBit i) → parF k u = parF k v
 | 0, _ => rfl
 | k + 1, h => by
  simp only [parF]
  rw [zlk k fun i hi => h i (by omega), h k (by omega)]
theorem bt_xv (a b : Nat) : bt a (xv b) = bt a b := by
 unfold bt
 refine zlk 12 fun i hi => ?_
 rw [Nat.testBit_and, Nat.testBit_and, xv, show 4096 = 2 ^ 12 from rfl, Nat.testBit_mod_two_pow]
 simp [hi]
theorem zf1 (a b : Nat) : xv (a ^^^ b) = xv a ^^^ xv b := by
 unfold xv
 rw [show 4096 = 2 ^ 12 from rfl, Nat.xor_mod_two_pow]
theorem zrw (e : E) (b : Nat) : phE e b < 4 := Nat.mod_lt _ (by decide)
theorem zgh (e f : E) (b : Nat) : phE (emul e f) b = (phE f b + phE e (b ^^^ xv f.2)) % 4 := by
 unfold phE emul
 simp only [zb9, zb3, bt_xv]
 cases bt e.2 f.2 <;> cases bt e.2 b <;> cases bt f.2 b <;> simp <;> omega
theorem zv9 (b : Nat) : phE e1 b = 0 := by simp [phE, e1, zqp]
def Sup (L : List E) (k : Nat) : Prop := ∀ g, Gen L g → xv g.2 = 0 → phE g k = 0
theorem zy8 {L : List E} (hL : Good L) {k : Nat} (h : Sup L k) {f g : E} (hf : Gen L f) (hg : Gen L g) (e : xv f.2 = xv g.2) : phE f k = phE g k := by
 have hx : xv (emul f g).2 = 0 := by
  show xv (f.2 ^^^ g.2) = 0
  rw [zf1, e, Nat.xor_self]
 have h0 := h _ (zbc hL hf hg) hx
 have e2 : emul g (emul f g) = f := by
  rw [zb0 (zg8 hL hf hg), ← za6, zcf (zce hL hg), zd0 f (zce hL hf).1]
 have := zgh g (emul f g) k
 rw [e2, h0, hx, Nat.xor_zero] at this
 have h4 := zrw g k
 rw [this]; omega
theorem zy9 {L : List E} (hL : Good L) {k : Nat} (h : Sup L k) {g : E} (hg : Gen L g) : Sup L (k ^^^ xv g.2) := by
 intro f hf hx
 have a1 := zgh f g k
 have a2 := zgh g f k
 rw [h f hf hx, hx, Nat.xor_zero] at a2
 rw [zb0 (zg8 hL hf hg), a2] at a1
 have h4 := zrw g k
 have h5 := zrw f (k ^^^ xv g.2)
 omega
theorem gen_spx {L : List E} {g : E} (h : Gen L g) : spB (L.map fun a => xv a.2) (xv g.2) = true := by
 induction h with
 | one => exact zgb _
 | mul a f ha _ ih =>
  show spB _ (xv (a.2 ^^^ f.2)) = true
  rw [zf1]
  exact zcu _ _ _ (zby _ _ (List.mem_map.2 ⟨a, ha, rfl⟩)) ih
theorem zpn {L : List E} {v : Nat} : ∀ (M : List E), (∀ a, a ∈ M → a ∈ L) → spB (M.map fun a => xv a.2) v = true → ∃ g, Gen L g ∧ xv g.2 = v
 | [], _, h => ⟨e1, .one, by simp only [List.map_nil, spB, beq_iff_eq] at h; rw [h]; rfl⟩
 | a :: M, hm, h => by
  simp only [List.map_cons, spB, Bool.or_eq_true] at h
  rcases h with h | h
  ·exact zpn M (fun b hb => hm b (List.mem_cons_of_mem _ hb)) h
  ·obtain ⟨g, h1, h2⟩ := zpn (v := v ^^^ xv a.2) M (fun b hb => hm b (List.mem_cons_of_mem _ hb)) h
   refine ⟨emul a g, .mul a g (hm a (by simp)) h1, ?_⟩
   show xv (a.2 ^^^ g.2) = v
   rw [zf1, h2, Nat.xor_comm v, ← Nat.xor_assoc, Nat.xor_self, Nat.zero_xor]
structure Amp (L : List E) (w lst m : Nat) (val : Nat → Option Nat) : Prop where
 sup : Sup L lst
 lt : lst < 2 ^ w
 min : ∀ k, k < 2 ^ w → Sup L k → lst ≤ k
 has : ∀ b p, b < 2 ^ w → val b = some p → ∃ g, Gen L g ∧ lst ^^^ xv g.2 = b ∧ phE g lst = p
 no : ∀ b, b < 2 ^ w → val b = none → ∀ g, Gen L g → lst ^^^ xv g.2 ≠ b
 rank : ∃ A : List Nat, (∀ a, a ∈ A → a < 2 ^ 12) ∧ Ind A ∧ A.length = m ∧ ∀ v, spB A v = true ↔ ∃ g, Gen L g ∧ xv g.2 = v
end Go.Tz
namespace Go.Tz
open Go Go.AL Go.Proofs Go.Ma
abbrev xB (q : Ps) (n : Nat) : Bool := q.x.toNat.testBit n
theorem zjb {w : Nat} (hw : w ≤ 12) {q : Ps} (h : Vl w q) : xv (nf q).2 = q.x.toNat ∧ q.x.toNat < 2 ^ w ∧ q.x = (q.x.toNat : Int) := by
 obtain ⟨X, Z, P, rfl, h1, _, _⟩ := h
 have h2 : X < 4096 := Nat.lt_of_lt_of_le h1 (Nat.pow_le_pow_right (by decide) hw)
 rw [zbz]
 refine ⟨?_, ?_, ?_⟩
 ·show (X + 4096 * Z) % 4096 = (X : Int).toNat
  rw [Int.toNat_natCast]; omega
 ·show (X : Int).toNat < _
  rwa [Int.toNat_natCast]
 ·show (X : Int) = ((X : Int).toNat : Int)
  rw [Int.toNat_natCast]
theorem x_mul {w : Nat} (hw : w ≤ 12) {q r : Ps} (hq : Vl w q) (hr : Vl w r) : (mulS q r).x.toNat = q.x.toNat ^^^ r.x.toNat := by
 rw [← (zjb hw (zd1 hw hq hr)).1, ← (zjb hw hq).1, ← (zjb hw hr).1, zdg hw hq hr, ← zf1]; rfl
def clrX (f : Ps) (n : Nat) (q : Ps) : Ps := if xB q n = true then mulS q f else q
theorem zx2 {w n : Nat} (hw : w ≤ 12) {f q : Ps} (hf : Vl w f) (hq : Vl w q) : Vl w (clrX f n q) := by
 unfold clrX
 split
 ·exact zd1 hw hq hf
 ·exact hq
theorem zfw {w n m : Nat} (hw : w ≤ 12) {f q : Ps} (hf : Vl w f) (hq : Vl w q) : xB (clrX f n q) m = (xB q m != (xB q n && xB f m)) := by
 unfold clrX
 split
 ·rename_i h
  unfold xB at h ⊢
  rw [x_mul hw hq hf, Nat.testBit_xor, h]; simp
 ·rename_i h
  have h : xB q n = false := by simpa using h
  rw [h]; simp
theorem zuk {w : Nat} (hw : w ≤ 12) {M M' : List Ps} {f : Ps} (hv : ∀ q, q ∈ M → Vl w q) (hG : Good (M.map nf)) (hf : f ∈ M) (hf' : f ∈ M') (h1 : ∀ q, q ∈ M' → q ∈ M ∨ ∃ r, r ∈ M ∧ q = mulS r f) (h2 : ∀ q, q ∈ M → q ∈ M' ∨ mulS q f ∈ M') : SameG (M.map nf) (M'.map nf) ∧ Good (M'.map nf) := by
 have g : ∀ q, q ∈ M → Gen (M.map nf) (nf q) := fun q hq => za7 hG (List.mem_map.2 ⟨q, hq, rfl⟩)
 have a1 : ∀ a, a ∈ M'.map nf → Gen (M.map nf) a := fun a ha => by
  obtain ⟨q, hq, rfl⟩ := List.mem_map.1 ha
  rcases h1 q hq with h | ⟨r, hr, rfl⟩
  ·exact g q h
  ·rw [zdg hw (hv r hr) (hv f hf)]; exact zbc hG (g r hr) (g f hf)
 have hG' : Good (M'.map nf) := zms hG a1
 have g' : ∀ q, q ∈ M' → Gen (M'.map nf) (nf q) := fun q hq => za7 hG' (List.mem_map.2 ⟨q, hq, rfl⟩)
 refine ⟨zrg hG a1 fun a ha => ?_, hG'⟩
 obtain ⟨q, hq, rfl⟩ := List.mem_map.1 ha
 rcases h2 q hq with h | h
 ·exact g' q h
 ·have h3 := zbc hG' (g' _ h) (g' f hf')
  rw [zdg hw (hv q hq) (hv f hf), za6, zcf (zce hG (g f hf)), zfu _ (zwn _)] at h3
  exact h3
structure Pt (w n : Nat) (L : List E) (A : List (Nat × Ps)) (B : List Ps) : Prop where
 vl : ∀ q, q ∈ A.map (·.2) ++ B → Vl w q
 good : Good ((A.map (·.2) ++ B).map nf)
 same : SameG L ((A.map (·.2) ++ B).map nf)
 lt : ∀ a, a ∈ A → a.1 < n
 bit : ∀ a, a ∈ A → xB a.2 a.1 = true
 piv : A.Pairwise fun a b => xB b.2 a.1 = false ∧ xB a.2 b.1 = false
 rest : ∀ b, b ∈ B → ∀ m, m < n → xB b m = false
theorem ptq_skip {w n : Nat} {L : List E} {A : List (Nat × Ps)} {B : List Ps} (h : Pt w n L A B) (hz : ∀ b, b ∈ B → xB b n = false) : Pt w (n + 1) L A B :=
 ⟨h.vl, h.good, h.same, fun a ha => Nat.lt_succ_of_lt (h.lt a ha), h.bit, h.piv, fun b hb m hm => by
  rcases Nat.lt_succ_iff_lt_or_eq.1 hm with q | q
  ·exact h.rest b hb m q
  ·rw [q]; exact hz b hb⟩
theorem ptq_step {w n : Nat} (hw : w ≤ 12) {L : List E} {A : List (Nat × Ps)} {B B' : List Ps} {f : Ps} (h : Pt w n L A B) (hf : f ∈ B) (hb : xB f n = true) (h1 : ∀ q, q ∈ B' → ∃ r, r ∈ B ∧ q = clrX f n r) (h2 : ∀ r, r ∈ B → r = f ∨ clrX f n r ∈ B') (h3 : ∀ q, q ∈ B' → xB q n = false) :
  Pt w (n + 1) L (A.map (fun a => (a.1, clrX f n a.2)) ++ [(n, f)]) B' := by
 have hA : ∀ a, a ∈ A → Vl w a.2 := fun a ha => h.vl _ (List.mem_append.2 (.inl (List.mem_map.2 ⟨a, ha, rfl⟩)))
 have hB : ∀ b, b ∈ B → Vl w b := fun b hb => h.vl _ (List.mem_append.2 (.inr hb))
 have hfv := hB f hf
 have mA : ∀ a, a ∈ A → a.2 ∈ A.map (·.2) ++ B := fun a ha => List.mem_append.2 (.inl (List.mem_map.2 ⟨a, ha, rfl⟩))
 have hmem : ∀ q, q ∈ (A.map (fun a => (a.1, clrX f n a.2)) ++ [(n, f)]).map (·.2) ++ B' ↔ (∃ a, a ∈ A ∧ q = clrX f n a.2) ∨ q = f ∨ q ∈ B' := by
  intro q
  simp only [List.mem_append, List.mem_map, List.mem_singleton]
  constructor
  ·rintro (⟨p, (⟨a, ha, rfl⟩ | rfl), rfl⟩ | hq)
   ·exact .inl ⟨a, ha, rfl⟩
   ·exact .inr (.inl rfl)
   ·exact .inr (.inr hq)
  ·rintro (⟨a, ha, rfl⟩ | rfl | hq)
   ·exact .inl ⟨_, .inl ⟨a, ha, rfl⟩, rfl⟩
   ·exact .inl ⟨_, .inr rfl, rfl⟩
   ·exact .inr hq
 have hcl : ∀ r, r ∈ A.map (·.2) ++ B → clrX f n r ∈ A.map (·.2) ++ B ∨ ∃ q, q ∈ A.map (·.2) ++ B ∧ clrX f n r = mulS q f := fun r hr => by
  unfold clrX
  split
  ·exact .inr ⟨r, hr, rfl⟩
  ·exact .inl hr
 have hcs := zuk (M' := (A.map (fun a => (a.1, clrX f n a.2)) ++ [(n, f)]).map (·.2) ++ B') (f := f) hw h.vl h.good (List.mem_append.2 (.inr hf)) ((hmem f).2 (.inr (.inl rfl)))
  (fun q hq => by
   rcases (hmem q).1 hq with ⟨a, ha, rfl⟩ | rfl | hq
   ·exact hcl _ (mA a ha)
   ·exact .inl (List.mem_append.2 (.inr hf))
   ·obtain ⟨r, hr, rfl⟩ := h1 q hq
    exact hcl r (List.mem_append.2 (.inr hr)))
  (fun q hq => by
   have hin : q = f ∨ clrX f n q ∈ (A.map (fun a => (a.1, clrX f n a.2)) ++ [(n, f)]).map (·.2) ++ B' := by
    rcases List.mem_append.1 hq with hq | hq
    ·obtain ⟨a, ha, rfl⟩ := List.mem_map.1 hq
     exact .inr ((hmem _).2 (.inl ⟨a, ha, rfl⟩))
    ·rcases h2 q hq with e | e
     ·exact .inl e
     ·exact .inr ((hmem _).2 (.inr (.inr e)))
   rcases hin with rfl | hin
   ·exact .inl ((hmem _).2 (.inr (.inl rfl)))
   ·unfold clrX at hin
    split at hin
    ·exact .inr hin
    ·exact .inl hin)
 refine ⟨fun q hq => ?_, hcs.2, fun g => (h.same g).trans (hcs.1 g), fun a ha => ?_, fun a ha => ?_, ?_, fun b hb m hm => ?_⟩
 ·rcases (hmem q).1 hq with ⟨a, ha, rfl⟩ | rfl | hq
  ·exact zx2 hw hfv (hA a ha)
  ·exact hfv
  ·obtain ⟨r, hr, rfl⟩ := h1 q hq
   exact zx2 hw hfv (hB r hr)
 ·rcases List.mem_append.1 ha with ha | ha
  ·obtain ⟨b, hb, rfl⟩ := List.mem_map.1 ha
   exact Nat.lt_succ_of_lt (h.lt b hb)
  ·rw [List.mem_singleton.1 ha]; exact Nat.lt_succ_self n
 ·rcases List.mem_append.1 ha with ha | ha
  ·obtain ⟨b, hb', rfl⟩ := List.mem_map.1 ha
   show xB (clrX f n b.2) b.1 = true
   rw [zfw hw hfv (hA b hb'), h.bit b hb', h.rest f hf b.1 (h.lt b hb')]; simp
  ·rw [List.mem_singleton.1 ha]; exact hb
 ·refine List.pairwise_append.2 ⟨?_, List.pairwise_singleton _ _, fun a ha b hb' => ?_⟩
  ·refine List.pairwise_map.2 ?_
   refine (List.Pairwise.imp_of_mem (fun {a b} ha hb' hab => ?_) h.piv)
   refine ⟨?_, ?_⟩
   ·show xB (clrX f n b.2) a.1 = false
    rw [zfw hw hfv (hA b hb'), hab.1, h.rest f hf a.1 (h.lt a ha)]; simp
   ·show xB (clrX f n a.2) b.1 = false
    rw [zfw hw hfv (hA a ha), hab.2, h.rest f hf b.1 (h.lt b hb')]; simp
  ·obtain ⟨c, hc, rfl⟩ := List.mem_map.1 ha
   rw [List.mem_singleton.1 hb']
   refine ⟨h.rest f hf c.1 (h.lt c hc), ?_⟩
   show xB (clrX f n c.2) n = false
   rw [zfw hw hfv (hA c hc), hb]
   cases xB c.2 n <;> rfl
 ·rcases Nat.lt_succ_iff_lt_or_eq.1 hm with q | q
  ·obtain ⟨r, hr, rfl⟩ := h1 b hb
   rw [zfw hw hfv (hB r hr), h.rest r hr m q, h.rest f hf m q]; simp
  ·rw [q]; exact h3 b hb
theorem zvy : ∀ {A : List (Nat × Ps)}, (∀ a, a ∈ A → xB a.2 a.1 = true) → A.Pairwise (fun a b => xB b.2 a.1 = false ∧ xB a.2 b.1 = false) → Ind (A.map fun a => a.2.x.toNat)
 | [], _, _ => rfl
 | a :: A, hb, hp => by
  obtain ⟨h1, h2⟩ := List.pairwise_cons.1 hp
  rw [List.map_cons, ind_cons]
  refine ⟨zvy (fun b hb' => hb b (List.mem_cons_of_mem _ hb')) h2, ?_⟩
  cases e : spB (A.map fun a => a.2.x.toNat) a.2.x.toNat with
  | false => rfl
  | true =>
   have h4 := zew (j := a.1) (A.map fun a => a.2.x.toNat) (fun v hv => by
    obtain ⟨b, hb', rfl⟩ := List.mem_map.1 hv
    exact (h1 b hb').1) _ e
   have h5 : a.2.x.toNat.testBit a.1 = true := hb a (by simp)
   rw [h5] at h4; cases h4
structure PtE (w : Nat) (L : List E) (A : List (Nat × Ps)) (B : List Ps) : Prop where
 pt : Pt w w L A B
 zero : ∀ b, b ∈ B → b.x.toNat = 0
 xs : ((A.map (·.2)).map nf).map (fun a => xv a.2) = A.map fun a => a.2.x.toNat
 ind : Ind (A.map fun a => a.2.x.toNat)
theorem ptq_end {w : Nat} (hw : w ≤ 12) {L : List E} {A : List (Nat × Ps)} {B : List Ps} (h : Pt w w L A B) : PtE w L A B := by
 refine ⟨h, fun b hb => ?_, ?_, zvy h.bit h.piv⟩
 ·obtain ⟨_, h2, _⟩ := zjb hw (h.vl b (List.mem_append.2 (.inr hb)))
  refine Nat.eq_of_testBit_eq fun m => ?_
  rw [Nat.zero_testBit]
  rcases Nat.lt_or_ge m w with q | q
  ·exact h.rest b hb m q
  ·exact Nat.testBit_lt_two_pow (Nat.lt_of_lt_of_le h2 (Nat.pow_le_pow_right (by decide) q))
 ·rw [List.map_map, List.map_map]
  refine List.map_congr_left fun a ha => ?_
  exact (zjb hw (h.vl a.2 (List.mem_append.2 (.inl (List.mem_map.2 ⟨a, ha, rfl⟩))))).1
theorem zrq {w : Nat} (hw : w ≤ 12) {L : List E} {A : List (Nat × Ps)} {B : List Ps} (h : PtE w L A B) (v : Nat) : spB (A.map fun a => a.2.x.toNat) v = true ↔ ∃ g, Gen L g ∧ xv g.2 = v := by
 rw [← h.xs]
 constructor
 ·intro hv
  obtain ⟨g, g1, g2⟩ := zpn (L := (A.map (·.2) ++ B).map nf) ((A.map (·.2)).map nf) (fun a ha => by rw [List.map_append]; exact List.mem_append.2 (.inl ha)) hv
  exact ⟨g, (h.pt.same g).2 g1, g2⟩
 ·rintro ⟨g, g1, rfl⟩
  have h1 := gen_spx ((h.pt.same g).1 g1)
  refine zjo _ _ (fun v hv => ?_) _ h1
  obtain ⟨a, ha, rfl⟩ := List.mem_map.1 hv
  rw [List.map_append] at ha
  rcases List.mem_append.1 ha with ha | ha
  ·exact zby _ _ (List.mem_map.2 ⟨a, ha, rfl⟩)
  ·obtain ⟨q, hq, rfl⟩ := List.mem_map.1 ha
   rw [(zjb hw (h.pt.vl q (List.mem_append.2 (.inr hq)))).1, h.zero q hq]; exact zgb _
end Go.Tz
namespace Go.Tz
open Go Go.AL Go.Proofs Go.Ma
theorem zo8 (a b : Nat) : a ^^^ (a ^^^ b) = b := by rw [← Nat.xor_assoc, Nat.xor_self, Nat.zero_xor]
def wyS (s : Ps × Nat) (a : Nat × Ps) : Ps × Nat := if s.2.testBit a.1 = true then (mulS s.1 a.2, s.2 ^^^ a.2.x.toNat) else s
def wyF (w : Nat) (A : List (Nat × Ps)) (u : Nat) : Ps × Nat := A.foldl wyS (⟨w, 0, 0, 0⟩, u)
structure Wy (w : Nat) (L : List E) (u : Nat) (A1 : List (Nat × Ps)) (s : Ps × Nat) : Prop where
 vl : Vl w s.1
 gen : Gen L (nf s.1)
 x : s.2 = u ^^^ s.1.x.toNat
 z : ∀ a, a ∈ A1 → s.2.testBit a.1 = false
theorem wy_run {w : Nat} (hw : w ≤ 12) {L : List E} (hL : Good L) {u : Nat} : ∀ (A2 A1 : List (Nat × Ps)) (s : Ps × Nat), (∀ a, a ∈ A2 → Vl w a.2 ∧ Gen L (nf a.2) ∧ xB a.2 a.1 = true) → (A1 ++ A2).Pairwise (fun a b => xB b.2 a.1 = false ∧ xB a.2 b.1 = false) → Wy w L u A1 s → Wy w L u (A1 ++ A2) (A2.foldl wyS s)
 | [], A1, s, _, _, h => by rw [List.append_nil]; exact h
 | a :: A2, A1, s, hA, hp, h => by
  obtain ⟨a1, a2, a3⟩ := hA a (by simp)
  have e : A1 ++ a :: A2 = (A1 ++ [a]) ++ A2 := by simp
  rw [e] at hp ⊢
  rw [List.foldl_cons]
  refine wy_run hw hL A2 (A1 ++ [a]) _ (fun b hb => hA b (List.mem_cons_of_mem _ hb)) hp ?_
  have hp1 := (List.pairwise_append.1 (List.pairwise_append.1 hp).1).2.2
  unfold wyS
  split
  ·rename_i hb
   refine ⟨zd1 hw h.vl a1, ?_, ?_, fun b hb' => ?_⟩
   ·show Gen L (nf (mulS s.1 a.2))
    rw [zdg hw h.vl a1]; exact zbc hL h.gen a2
   ·show s.2 ^^^ a.2.x.toNat = u ^^^ (mulS s.1 a.2).x.toNat
    rw [x_mul hw h.vl a1, h.x, Nat.xor_assoc]
   ·show (s.2 ^^^ a.2.x.toNat).testBit b.1 = false
    rw [Nat.testBit_xor]
    rcases List.mem_append.1 hb' with q | q
    ·have h1 : a.2.x.toNat.testBit b.1 = false := (hp1 b q a (by simp)).1
     rw [h.z b q, h1]; rfl
    ·rw [List.mem_singleton.1 q, hb]
     have h1 : a.2.x.toNat.testBit a.1 = true := a3
     rw [h1]; rfl
  ·rename_i hb
   refine ⟨h.vl, h.gen, h.x, fun b hb' => ?_⟩
   rcases List.mem_append.1 hb' with q | q
   ·exact h.z b q
   ·rw [List.mem_singleton.1 q]; simpa using hb
theorem zrb : ∀ {A : List (Nat × Ps)} {v : Nat}, (∀ a, a ∈ A → xB a.2 a.1 = true) → A.Pairwise (fun a b => xB b.2 a.1 = false ∧ xB a.2 b.1 = false) → spB (A.map fun a => a.2.x.toNat) v = true → (∀ a, a ∈ A → v.testBit a.1 = false) → v = 0
 | [], v, _, _, h, _ => by simpa only [List.map_nil, spB, beq_iff_eq] using h
 | a :: A, v, hb, hp, h, hz => by
  obtain ⟨h1, h2⟩ := List.pairwise_cons.1 hp
  simp only [List.map_cons, spB, Bool.or_eq_true] at h
  rcases h with h | h
  ·exact zrb (fun b hb' => hb b (List.mem_cons_of_mem _ hb')) h2 h fun b hb' => hz b (List.mem_cons_of_mem _ hb')
  ·exfalso
   have h4 := zew (j := a.1) (A.map fun a => a.2.x.toNat) (fun v hv => by
    obtain ⟨b, hb', rfl⟩ := List.mem_map.1 hv
    exact (h1 b hb').1) _ h
   have h5 : a.2.x.toNat.testBit a.1 = true := hb a (by simp)
   rw [Nat.testBit_xor, hz a (by simp), h5] at h4
   cases h4
def valW (w : Nat) (A : List (Nat × Ps)) (lst b : Nat) : Option Nat := if (wyF w A (lst ^^^ b)).2 = 0 then some (phE (nf (wyF w A (lst ^^^ b)).1) lst) else none
theorem way_ok {w : Nat} (hw : w ≤ 12) {L : List E} (hL : Good L) {A : List (Nat × Ps)} {B : List Ps} (h : PtE w L A B) (u : Nat) : Wy w L u A (wyF w A u) := by
 have mA : ∀ a, a ∈ A → a.2 ∈ A.map (·.2) ++ B := fun a ha => List.mem_append.2 (.inl (List.mem_map.2 ⟨a, ha, rfl⟩))
 have := wy_run (u := u) hw hL A [] (⟨w, 0, 0, 0⟩, u) (fun a ha => ⟨h.pt.vl _ (mA a ha), (h.pt.same _).2 (za7 h.pt.good (List.mem_map.2 ⟨_, mA a ha, rfl⟩)), h.pt.bit a ha⟩) (by rw [List.nil_append]; exact h.pt.piv)
  ⟨zq4 w, by rw [zwm]; exact .one, by show u = u ^^^ (0 : Int).toNat; simp, fun a ha => by cases ha⟩
 rw [List.nil_append] at this
 exact this
theorem amp_way {w : Nat} (hw : w ≤ 12) {L : List E} (hL : Good L) {A : List (Nat × Ps)} {B : List Ps} (h : PtE w L A B) {lst : Nat} (h1 : Sup L lst) (h2 : lst < 2 ^ w) (h3 : ∀ k, k < 2 ^ w → Sup L k → lst ≤ k) : Amp L w lst A.length (valW w A lst) := by
 refine ⟨h1, h2, h3, fun b p hb e => ?_, fun b hb e g hg hx => ?_, ⟨A.map fun a => a.2.x.toNat, fun v hv => ?_, h.ind, by rw [List.length_map], zrq hw h⟩⟩
 ·have hy := way_ok hw hL h (lst ^^^ b)
  unfold valW at e
  split at e
  ·rename_i h0
   refine ⟨nf (wyF w A (lst ^^^ b)).1, hy.gen, ?_, Option.some.inj e⟩
   rw [(zjb hw hy.vl).1]
   have h4 := hy.x
   rw [h0] at h4
   have h5 := congrArg (fun n => lst ^^^ b ^^^ n) h4
   simp only [zo8, Nat.xor_zero] at h5
   rw [← h5, zo8]
  ·cases e
 ·have hy := way_ok hw hL h (lst ^^^ b)
  unfold valW at e
  split at e
  ·cases e
  ·rename_i h0
   apply h0
   refine zrb h.pt.bit h.pt.piv ?_ hy.z
   rw [hy.x, zrq hw h]
   refine ⟨emul g (nf (wyF w A (lst ^^^ b)).1), zbc hL hg hy.gen, ?_⟩
   show xv (g.2 ^^^ _) = _
   rw [zf1, (zjb hw hy.vl).1, ← hx, zo8]
 ·obtain ⟨a, ha, rfl⟩ := List.mem_map.1 hv
  exact Nat.lt_of_lt_of_le (zjb hw (h.pt.vl a.2 (List.mem_append.2 (.inl (List.mem_map.2 ⟨a, ha, rfl⟩))))).2.1 (Nat.pow_le_pow_right (by decide) hw)
end Go.Tz
namespace Go.Tz
open Go Go.AL Go.Proofs Go.Ma
theorem zl3 {L M : List E} (h : SameG L M) (k : Nat) : Sup L k ↔ Sup M k := ⟨fun q g hg => q g ((h g).2 hg), fun q g hg => q g ((h g).1 hg)⟩
theorem zwk (w n o : Nat) (ho : o ≤ 1) : nf (zP w n o) = (2 * o, 2 ^ (12 + n)) := by
 unfold zP
 rw [zbz, Nat.zero_and, zmc, Nat.zero_add, Nat.pow_add]
 refine Prod.ext ?_ rfl
 show (2 * o + 0) % 4 = 2 * o
 omega
theorem zte (w n o : Nat) (ho : o ≤ 1) : xv (nf (zP w n o)).2 = 0 := by
 rw [zwk w n o ho]
 show 2 ^ (12 + n) % 4096 = 0
 rw [Nat.pow_add]
 exact Nat.mul_mod_right _ _
theorem zys {w n o : Nat} (hn : n < 12) (ho : o ≤ 1) (k : Nat) : phE (nf (zP w n o)) k = 0 ↔ (k.testBit n).toNat = o := by
 rw [zwk w n o ho]
 unfold phE
 dsimp only
 rw [zit hn]
 cases k.testBit n <;> simp <;> omega
theorem zP_neg (w n : Nat) : eneg (nf (zP w n 0)) = nf (zP w n 1) := by
 rw [zwk w n 0 (by decide), zwk w n 1 (by decide)]; rfl
theorem com_z {p g : E} (h1 : xv p.2 = 0) (h2 : xv g.2 = 0) : ecom p g := by
 unfold ecom
 rw [← bt_xv, h2, zqo, ← bt_xv, h1, zqo]
theorem zza {L : List E} (hL : Good L) {p : E} (hp : xv p.2 = 0) (hok : eok p) (hx : ∃ q, q ∈ L ∧ ¬ ecom q p) (k : Nat) : Sup (proj p L) k ↔ Sup L k ∧ phE p k = 0 := by
 obtain ⟨_, _, _, hk⟩ := zjx hL hok hx
 have hG := ze8 hL hok hx
 constructor
 ·intro h
  exact ⟨fun g hg hz => h g ((hk g hg).1 (com_z hp hz)) hz, h p (za7 hG (ziy hx)) hp⟩
 ·rintro ⟨h1, h2⟩ g hg hz
  obtain ⟨f, f1, _, rfl | rfl⟩ := zn6 hL hok hx hg
  ·exact h1 _ f1 hz
  ·have hf : xv f.2 = 0 := by
    have h3 : xv (p.2 ^^^ f.2) = 0 := hz
    rw [zf1, hp, Nat.zero_xor] at h3; exact h3
   rw [zgh, h1 f f1 hf, hf, Nat.xor_zero, h2]
def lsS (w : Nat) (l : List Ps) : Nat → List Ps × Nat
 | 0 => (redRows l (2 * w), 0)
 | i + 1 => if expR w (lsS w l i).1 (zP w (w - 1 - i) 0) = 1 then lsS w l i else if expR w (lsS w l i).1 (zP w (w - 1 - i) 0) = -1 then ((lsS w l i).1, (lsS w l i).2 ||| 2 ^ (w - 1 - i)) else (redRows (prjL (zP w (w - 1 - i) 0) (lsS w l i).1) (2 * w), (lsS w l i).2)
structure Ls (w n : Nat) (L : List E) (s : List Ps × Nat) : Prop where
 sok : SOk w s.1
 sup : ∀ k, Sup (s.1.map nf) k ↔ Sup L k ∧ ∀ j, n ≤ j → j < w → k.testBit j = s.2.testBit j
 lo : ∀ j, j < n ∨ w ≤ j → s.2.testBit j = false
 gen : ∀ j, n ≤ j → j < w → Gen (s.1.map nf) (nf (zP w j (s.2.testBit j).toNat))
 min : ∀ k, Sup L k → s.2 / 2 ^ n ≤ k / 2 ^ n
theorem div2 (x n : Nat) : x / 2 ^ n = 2 * (x / 2 ^ (n + 1)) + (x.testBit n).toNat := by
 rw [Nat.pow_succ, ← Nat.div_div_eq_div_mul]
 have h : x.testBit n = decide (x / 2 ^ n % 2 = 1) := Nat.testBit_eq_decide_div_mod_eq
 rw [h]
 generalize x / 2 ^ n = q
 have := Nat.mod_two_eq_zero_or_one q
 rcases this with h | h <;> rw [h] <;> simp <;> omega
theorem div_bits {x y n : Nat} (h : x / 2 ^ n = y / 2 ^ n) {j : Nat} (hj : n ≤ j) : x.testBit j = y.testBit j := by
 obtain ⟨m, rfl⟩ : ∃ m, j = n + m := ⟨j - n, by omega⟩
 rw [Nat.add_comm, ← Nat.testBit_div_two_pow, ← Nat.testBit_div_two_pow, h]
theorem tn1 (b : Bool) : b.toNat ≤ 1 := by cases b <;> decide
theorem ls_step {w n i : Nat} {l : List Ps} (hi : i < w) (hn : n = w - 1 - i) {L : List E} (h : Ls w (n + 1) L (lsS w l i)) : Ls w n L (lsS w l (i + 1)) := by
 have hnw : n < w := by omega
 have hs : lsS w l (i + 1) = if expR w (lsS w l i).1 (zP w n 0) = 1 then lsS w l i else if expR w (lsS w l i).1 (zP w n 0) = -1 then ((lsS w l i).1, (lsS w l i).2 ||| 2 ^ n) else (redRows (prjL (zP w n 0) (lsS w l i).1) (2 * w), (lsS w l i).2) := by rw [hn]; rfl
 rw [hs]
 clear hs hn
 generalize lsS w l i = s at h ⊢
 obtain ⟨R, o⟩ := s
 have hk := h.sok
 have hw : w ≤ 12 := hk.hi
 have hst := zbs hk
 have hpv := zku (w := w) (o := 0) hnw (by decide)
 have hok := zur hw hnw (o := 0) (by decide)
 have hz0 : o.testBit n = false := h.lo n (.inl (Nat.lt_succ_self n))
 dsimp only at hk hst ⊢
 rcases zdu (zh2 hk hpv hok) with ⟨e, hg⟩ | ⟨e, hg⟩ | ⟨e, n1, n2⟩
 ·rw [if_pos e]
  have hbit : ∀ k, Sup (R.map nf) k → k.testBit n = false := fun k hs => by
   have := (zys (w := w) (by omega) (by decide) k).1 (hs _ hg (zte w n 0 (by decide)))
   cases e : k.testBit n with
   | false => rfl
   | true => rw [e] at this; cases this
  refine ⟨hk, fun k => ⟨fun hs => ⟨((h.sup k).1 hs).1, fun j h1 h2 => ?_⟩, fun hs => (h.sup k).2 ⟨hs.1, fun j h1 h2 => hs.2 j (by omega) h2⟩⟩, fun j hj => h.lo j (by omega), fun j h1 h2 => ?_, fun k hs => ?_⟩
  ·by_cases q : j = n
   ·subst q; rw [hbit k hs]; exact hz0.symm
   ·exact ((h.sup k).1 hs).2 j (by omega) h2
  ·by_cases q : j = n
   ·subst q
    show Gen _ (nf (zP w j (o.testBit j).toNat))
    rw [hz0]; exact hg
   ·exact h.gen j (by omega) h2
  ·have := h.min k hs
   show o / 2 ^ n ≤ k / 2 ^ n
   rw [div2 o, div2 k, hz0]
   have h3 : o / 2 ^ (n + 1) ≤ k / 2 ^ (n + 1) := this
   have : false.toNat = 0 := rfl
   omega
 ·rw [if_neg (by rw [e]; decide), if_pos e]
  rw [zP_neg] at hg
  have hbit : ∀ k, Sup (R.map nf) k → k.testBit n = true := fun k hs => by
   have := (zys (w := w) (by omega) (by decide) k).1 (hs _ hg (zte w n 1 (by decide)))
   cases e : k.testBit n with
   | true => rfl
   | false => rw [e] at this; cases this
  have hob : ∀ j, (o ||| 2 ^ n).testBit j = (o.testBit j || decide (n = j)) := fun j => by rw [Nat.testBit_or, Nat.testBit_two_pow]
  have hobn : (o ||| 2 ^ n).testBit n = true := by rw [hob]; simp
  have hobj : ∀ j, j ≠ n → (o ||| 2 ^ n).testBit j = o.testBit j := fun j hj => by rw [hob]; simp [Ne.symm hj]
  refine ⟨hk, fun k => ⟨fun hs => ⟨((h.sup k).1 hs).1, fun j h1 h2 => ?_⟩, fun hs => (h.sup k).2 ⟨hs.1, fun j h1 h2 => ?_⟩⟩, fun j hj => ?_, fun j h1 h2 => ?_, fun k hs => ?_⟩
  ·by_cases q : j = n
   ·subst q; rw [hbit k hs]; exact hobn.symm
   ·show _ = (o ||| 2 ^ n).testBit j
    rw [hobj j q]; exact ((h.sup k).1 hs).2 j (by omega) h2
  ·have := hs.2 j (by omega) h2
   dsimp only at this
   rw [hobj j (by omega)] at this; exact this
  ·show (o ||| 2 ^ n).testBit j = false
   rw [hobj j (by omega)]; exact h.lo j (by omega)
  ·show Gen _ (nf (zP w j ((o ||| 2 ^ n).testBit j).toNat))
   by_cases q : j = n
   ·subst q; rw [hobn]; exact hg
   ·rw [hobj j q]; exact h.gen j (by omega) h2
  ·have h3 : o / 2 ^ (n + 1) ≤ k / 2 ^ (n + 1) := h.min k hs
   have h4 : (o ||| 2 ^ n) / 2 ^ (n + 1) = o / 2 ^ (n + 1) := Nat.eq_of_testBit_eq fun j => by
    rw [Nat.testBit_div_two_pow, Nat.testBit_div_two_pow, hobj _ (by omega)]
   show (o ||| 2 ^ n) / 2 ^ n ≤ k / 2 ^ n
   rw [div2 (o ||| 2 ^ n), div2 k, h4, hobn]
   have : true.toNat = 1 := rfl
   rcases Nat.lt_or_ge (o / 2 ^ (n + 1)) (k / 2 ^ (n + 1)) with q | q
   ·omega
   ·have h5 : k / 2 ^ (n + 1) = o / 2 ^ (n + 1) := by omega
    have h6 : Sup (R.map nf) k := (h.sup k).2 ⟨hs, fun j h1 _ => div_bits h5 h1⟩
    rw [hbit k h6, h5]
    exact Nat.le_refl _
 ·rw [if_neg (by rw [e]; decide), if_neg (by rw [e]; decide)]
  have hpin : inV w (nf (zP w n 0)).2 := zk5 hw hpv
  have hx := zgt hw hst hpin hok n1 n2
  have hS : SOk w (prjL (zP w n 0) R) := by
   refine zjm ⟨hk.lo, hw⟩ (zpx hw hpv hk.vl) ?_
   rw [zhw hw hk.vl hst.good]
   exact zma hw hst hpin hok n1 n2
  obtain ⟨r1, r2⟩ := zcj hS
  have hsp : ∀ k, Sup ((redRows (prjL (zP w n 0) R) (2 * w)).map nf) k ↔ Sup (R.map nf) k ∧ k.testBit n = false := fun k => by
   rw [← zl3 r2 k, zhw hw hk.vl hst.good, zza hst.good (zte w n 0 (by decide)) hok hx, zys (by omega) (by decide)]
   cases k.testBit n <;> simp
  obtain ⟨_, _, _, hkeep⟩ := zjx hst.good hok hx
  refine ⟨r1, fun k => ⟨fun hs => ?_, fun hs => ?_⟩, fun j hj => h.lo j (by omega), fun j h1 h2 => ?_, fun k hs => ?_⟩
  ·obtain ⟨a1, a2⟩ := (hsp k).1 hs
   refine ⟨((h.sup k).1 a1).1, fun j h1 h2 => ?_⟩
   by_cases q : j = n
   ·subst q; rw [a2]; exact hz0.symm
   ·exact ((h.sup k).1 a1).2 j (by omega) h2
  ·refine (hsp k).2 ⟨(h.sup k).2 ⟨hs.1, fun j h1 h2 => hs.2 j (by omega) h2⟩, ?_⟩
   exact (hs.2 n (Nat.le_refl n) hnw).trans hz0
  ·refine (r2 _).1 ?_
   rw [zhw hw hk.vl hst.good]
   by_cases q : j = n
   ·subst q
    show Gen _ (nf (zP w j (o.testBit j).toNat))
    rw [hz0]
    exact za7 (ze8 hst.good hok hx) (ziy hx)
   ·refine (hkeep _ (h.gen j (by omega) h2)).1 (com_z (zte w n 0 (by decide)) (zte w j _ ?_))
    exact tn1 _
  ·have := h.min k hs
   show o / 2 ^ n ≤ k / 2 ^ n
   rw [div2 o, div2 k, hz0]
   have h3 : o / 2 ^ (n + 1) ≤ k / 2 ^ (n + 1) := this
   have : false.toNat = 0 := rfl
   omega
theorem zpl {w : Nat} (hw : w ≤ 12) {L : List E} (hL : Sta w L) {o : Nat} (hg : ∀ j, j < w → Gen L (nf (zP w j (o.testBit j).toNat))) : ∀ n, n ≤ w → ∀ g, Gen L g → xv g.2 = 0 → (∀ j, n ≤ j → g.2.testBit (12 + j) = false) → phE g o = 0
 | 0, _, g, h, hx, hz => by
  have h0 : g.2 = 0 := Nat.eq_of_testBit_eq fun j => by
   rw [Nat.zero_testBit]
   rcases Nat.lt_or_ge j 12 with q | q
   ·have := congrArg (fun v => v.testBit j) hx
    simp only [xv, show 4096 = 2 ^ 12 from rfl, Nat.testBit_mod_two_pow, Nat.zero_testBit] at this
    simpa [q] using this
   ·have := hz (j - 12) (Nat.zero_le _)
    rwa [show 12 + (j - 12) = j by omega] at this
  rw [zmu hL.good hL.ind h h0, zv9]
 | n + 1, hn, g, h, hx, hz => by
  by_cases hb : g.2.testBit (12 + n) = true
  ·have hzg := hg n (by omega)
   have hb1 := tn1 (o.testBit n)
   have hzx := zte w n (o.testBit n).toNat hb1
   have hp0 := (zys (w := w) (by omega) hb1 o).2 rfl
   have e2 : (nf (zP w n (o.testBit n).toNat)).2 = 2 ^ (12 + n) := by rw [zwk w n _ hb1]
   generalize nf (zP w n (o.testBit n).toNat) = z at hzg hzx hp0 e2
   have hm := zbc hL.good hzg h
   have hmx : xv (emul z g).2 = 0 := by
    show xv (z.2 ^^^ g.2) = 0
    rw [zf1, hzx, hx]; rfl
   have ih := zpl hw hL hg n (by omega) (emul z g) hm hmx fun j hj => by
    show (z.2 ^^^ g.2).testBit (12 + j) = false
    rw [Nat.testBit_xor, e2, Nat.testBit_two_pow]
    by_cases q : n = j
    ·subst q; rw [hb]; simp
    ·rw [hz j (by omega)]; simp; omega
   have e : emul z (emul z g) = g := by
    rw [← za6, zcf (zce hL.good hzg), zd0 g (zce hL.good h).1]
   have := zgh z (emul z g) o
   rw [e, ih, hmx, Nat.xor_zero, hp0] at this
   exact this
  ·refine zpl hw hL hg n (by omega) g h hx fun j hj => ?_
   by_cases q : j = n
   ·rw [q]; simpa using hb
   ·exact hz j (by omega)
theorem zr6 {w : Nat} {l : List Ps} (h : SOk w l) : ∀ i, i ≤ w → Ls w (w - i) ((l.map nf)) (lsS w l i)
 | 0, _ => by
  obtain ⟨r1, r2⟩ := zcj h
  refine ⟨r1, fun k => ⟨fun q => ⟨(zl3 r2 k).2 q, fun j h1 h2 => by omega⟩, fun q => (zl3 r2 k).1 q.1⟩, fun j _ => Nat.zero_testBit j, fun j h1 h2 => by omega, fun k _ => ?_⟩
  show 0 / _ ≤ _
  rw [Nat.zero_div]; exact Nat.zero_le _
 | i + 1, hi => by
  have := zr6 h i (by omega)
  rw [show w - i = (w - 1 - i) + 1 by omega] at this
  rw [show w - (i + 1) = w - 1 - i by omega]
  exact ls_step (by omega) rfl this
theorem ls_end {w : Nat} {l : List Ps} (h : SOk w l) : Sup (l.map nf) (lsS w l w).2 ∧ (lsS w l w).2 < 2 ^ w ∧ ∀ k, Sup (l.map nf) k → (lsS w l w).2 ≤ k := by
 have hl := zr6 h w (Nat.le_refl w)
 rw [Nat.sub_self] at hl
 have hs := zbs hl.sok
 have hin : ∀ g, Gen ((lsS w l w).1.map nf) g → ∀ j, w ≤ j → g.2.testBit (12 + j) = false := fun g hg j hj => by
  refine zew _ (fun a ha => ?_) _ (zcq hg)
  obtain ⟨e, he, rfl⟩ := List.mem_map.1 ha
  exact zew _ (zqu (.inr (by omega))) _ (hs.inv e he)
 have hsup : Sup ((lsS w l w).1.map nf) (lsS w l w).2 := fun g hg hx => zpl h.hi hs (fun j hj => hl.gen j (Nat.zero_le j) hj) w (Nat.le_refl w) g hg hx (hin g hg)
 refine ⟨((hl.sup _).1 hsup).1, Nat.lt_pow_two_of_testBit _ fun j hj => hl.lo j (.inr hj), fun k hk => ?_⟩
 have := hl.min k hk
 simpa using this
end Go.Tz
namespace Go.Tz
open Go Go.AL Go.Proofs Go.Ma
theorem zs4 {w n : Nat} (hw : w ≤ 12) (hn : n < w) {q : Ps} (h : Vl w q) : bitB q (2 * n : Nat) = xB q n := by
 have h1 := zes (c := 2 * n) hw (by omega) h
 rw [h1]
 obtain ⟨X, Z, P, rfl, hX, _, _⟩ := h
 have h2 : X < 4096 := Nat.lt_of_lt_of_le hX (Nat.pow_le_pow_right (by decide) hw)
 unfold cb vec pos xB
 rw [if_pos (by omega), zbz, show 2 * n / 2 = n by omega, zcw h2, if_pos (by omega)]
 show _ = (X : Int).toNat.testBit n
 rw [Int.toNat_natCast]
theorem zoz (q : Ps) (n : Nat) : bitB q (2 * n : Nat) = decide (bitI q.x n = 1) := by
 unfold bitB
 have e1 : ((2 * n : Nat) : Int) % 2 = 0 := by omega
 have e2 : ((2 * n : Nat) : Int) / 2 = n := by omega
 rw [if_pos e1, e2]
theorem bitI_x {w n : Nat} (hw : w ≤ 12) (hn : n < w) {q : Ps} (h : Vl w q) : decide (bitI q.x n = 1) = xB q n := by rw [← zoz, zs4 hw hn h]
theorem zx1 (f : Ps) (n : Nat) : clrX f n Ps.z0 = Ps.z0 := by
 unfold clrX
 rw [if_neg]
 show ¬ (0 : Int).toNat.testBit n = true
 simp
structure FS where
 r : Nat → Ps
 m : Nat
 o : Nat → Nat × Ps
def dlt (rf : Nat → Ps) (f j : Nat) : Ps := if j < f then rf j else rf (j + 1)
def flS (w n : Nat) (s : FS) : FS := match fndO s.r s.m (2 * n) 0 with
 | none => s
 | some f => ⟨fun j => clrX (s.r f) n (dlt s.r f j), s.m - 1, fun j => if j < w - s.m then ((s.o j).1, clrX (s.r f) n (s.o j).2) else (n, s.r f)⟩
def flN (w : Nat) (l : List Ps) : Nat → FS
 | 0 => ⟨fun j => l.getD j Ps.z0, w, fun _ => (0, Ps.z0)⟩
 | n + 1 => flS w n (flN w l n)
abbrev flA (w : Nat) (s : FS) : List (Nat × Ps) := (List.range (w - s.m)).map s.o
abbrev flB (s : FS) : List Ps := (List.range s.m).map s.r
structure FlOk (w n : Nat) (L : List E) (s : FS) : Prop where
 le : s.m ≤ w
 z : ∀ j, s.m ≤ j → s.r j = Ps.z0
 pt : Pt w n L (flA w s) (flB s)
theorem zsn {w n : Nat} {L : List E} {s : FS} (h : FlOk w n L s) {j : Nat} (hj : j < s.m) : Vl w (s.r j) := h.pt.vl _ (List.mem_append.2 (.inr (List.mem_map.2 ⟨j, List.mem_range.2 hj, rfl⟩)))
theorem flok_o {w n : Nat} {L : List E} {s : FS} (h : FlOk w n L s) {j : Nat} (hj : j < w - s.m) : Vl w (s.o j).2 ∧ (s.o j).1 < n := by
 have hm : s.o j ∈ flA w s := List.mem_map.2 ⟨j, List.mem_range.2 hj, rfl⟩
 exact ⟨h.pt.vl _ (List.mem_append.2 (.inl (List.mem_map.2 ⟨_, hm, rfl⟩))), h.pt.lt _ hm⟩
theorem fl_step {w n : Nat} (hw : w ≤ 12) (hn : n < w) {L : List E} {s : FS} (h : FlOk w n L s) : FlOk w (n + 1) L (flS w n s) := by
 unfold flS
 cases hf : fndO s.r s.m (2 * n) 0 with
 | none =>
  refine ⟨h.le, h.z, ptq_skip h.pt fun b hb => ?_⟩
  obtain ⟨j, hj, rfl⟩ := List.mem_map.1 hb
  have hj := List.mem_range.1 hj
  rw [← zs4 hw hn (zsn h hj)]
  exact zkf hf j (Nat.zero_le j) hj
 | some f =>
  obtain ⟨_, f1, f2, _⟩ := zdt hf
  have hfv := zsn h f1
  rw [zs4 hw hn hfv] at f2
  dsimp only
  have hle := h.le
  refine ⟨by show s.m - 1 ≤ w; omega, fun j hj => ?_, ?_⟩
  ·have hj : s.m - 1 ≤ j := hj
   show clrX _ n (dlt s.r f j) = _
   have : dlt s.r f j = Ps.z0 := by
    unfold dlt
    rw [if_neg (by omega)]
    exact h.z _ (by omega)
   rw [this, zx1]
  ·have eA : flA w ⟨fun j => clrX (s.r f) n (dlt s.r f j), s.m - 1, fun j => if j < w - s.m then ((s.o j).1, clrX (s.r f) n (s.o j).2) else (n, s.r f)⟩ = (flA w s).map (fun a => (a.1, clrX (s.r f) n a.2)) ++ [(n, s.r f)] := by
    unfold flA
    dsimp only
    rw [show w - (s.m - 1) = (w - s.m) + 1 by omega, List.range_succ, List.map_append, List.map_map]
    congr 1
    ·refine List.map_congr_left fun j hj => ?_
     rw [if_pos (List.mem_range.1 hj)]; rfl
    ·simp only [List.map_cons, List.map_nil]
     rw [if_neg (Nat.lt_irrefl _)]
   rw [eA]
   have hd : ∀ j, j < s.m - 1 → ∃ i, i < s.m ∧ dlt s.r f j = s.r i := fun j hj => by
    unfold dlt
    split
    ·exact ⟨j, by omega, rfl⟩
    ·exact ⟨j + 1, by omega, rfl⟩
   refine ptq_step hw h.pt (f := s.r f) (List.mem_map.2 ⟨f, List.mem_range.2 f1, rfl⟩) f2 (fun q hq => ?_) (fun r hr => ?_) (fun q hq => ?_)
   ·obtain ⟨j, hj, rfl⟩ := List.mem_map.1 hq
    obtain ⟨i, hi, e⟩ := hd j (List.mem_range.1 hj)
    exact ⟨s.r i, List.mem_map.2 ⟨i, List.mem_range.2 hi, rfl⟩, by show clrX _ n (dlt s.r f j) = _; rw [e]⟩
   ·obtain ⟨i, hi, rfl⟩ := List.mem_map.1 hr
    have hi := List.mem_range.1 hi
    rcases Nat.lt_trichotomy i f with q | q | q
    ·exact .inr (List.mem_map.2 ⟨i, List.mem_range.2 (by show i < s.m - 1; omega), by show clrX _ n (dlt s.r f i) = _; unfold dlt; rw [if_pos q]⟩)
    ·exact .inl (by rw [q])
    ·refine .inr (List.mem_map.2 ⟨i - 1, List.mem_range.2 (by show i - 1 < s.m - 1; omega), ?_⟩)
     show clrX _ n (dlt s.r f (i - 1)) = _
     unfold dlt; rw [if_neg (by omega), show i - 1 + 1 = i by omega]
   ·obtain ⟨j, hj, rfl⟩ := List.mem_map.1 hq
    obtain ⟨i, hi, e⟩ := hd j (List.mem_range.1 hj)
    show xB (clrX _ n (dlt s.r f j)) n = false
    rw [e, zfw hw hfv (zsn h hi), f2]
    cases xB (s.r i) n <;> rfl
theorem fl_zero {w : Nat} {l : List Ps} (hlen : l.length = w) (hv : ∀ q, q ∈ l → Vl w q) (hG : Good (l.map nf)) : FlOk w 0 (l.map nf) (flN w l 0) := by
 have eB : flB (flN w l 0) = l := by
  show (List.range w).map (fun j => l.getD j Ps.z0) = l
  apply List.ext_getElem
  ·simp [hlen]
  ·intro i h1 h2
   simp [List.getElem?_eq_getElem h2]
 have eA : flA w (flN w l 0) = [] := by
  show (List.range (w - w)).map _ = []
  rw [Nat.sub_self]; rfl
 refine ⟨Nat.le_refl w, fun j hj => ?_, ?_⟩
 ·show l.getD j Ps.z0 = _
  have : w ≤ j := hj
  rw [List.getD_eq_getElem?_getD, List.getElem?_eq_none (by omega)]; rfl
 ·rw [eA, eB]
  exact ⟨hv, hG, fun _ => Iff.rfl, (fun a ha => by cases ha), (fun a ha => by cases ha), List.Pairwise.nil, fun b _ m hm => by omega⟩
theorem zxo {w : Nat} (hw : w ≤ 12) {l : List Ps} (hlen : l.length = w) (hv : ∀ q, q ∈ l → Vl w q) (hG : Good (l.map nf)) : ∀ n, n ≤ w → FlOk w n (l.map nf) (flN w l n)
 | 0, _ => fl_zero hlen hv hG
 | n + 1, hn => fl_step hw hn (zxo hw hlen hv hG n (by omega))
end Go.Tz
