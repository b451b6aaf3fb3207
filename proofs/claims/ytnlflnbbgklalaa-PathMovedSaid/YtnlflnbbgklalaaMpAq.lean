/- The plain law PathMoved: what a path that is moved as a whole keeps. -/
import Derived.Test.YtnlflnbbgklalaaMpAp
import Derived.Test.YtnlflnbbgklalaaMpS
import Derived.Test.YtnlflnbbgklalaaMpJ
namespace Go.MP
open Go Go.Sx Go.Proofs
set_option linter.unusedVariables false
set_option linter.unusedSimpArgs false
noncomputable section

/-! ### Wraps -/
theorem wrap_mod {a b : Int} (h : (a - b) % 18446744073709551616 = 0) : IntKind.wrap IntKind.i64 a = IntKind.wrap IntKind.i64 b := by
  rw [IntKind.wrap_i64, IntKind.wrap_i64]
  omega
theorem wrap_is (n : Int) : ∃ k, IntKind.wrap IntKind.i64 n = n + 18446744073709551616 * k := by
  rw [IntKind.wrap_i64]
  refine ⟨(((n + 9223372036854775808) % 18446744073709551616 - 9223372036854775808) - n) / 18446744073709551616, ?_⟩
  omega
theorem wrap_add2 (a b c : Int) : IntKind.wrap IntKind.i64 (IntKind.wrap IntKind.i64 (a + b) + c) = IntKind.wrap IntKind.i64 (IntKind.wrap IntKind.i64 (a + c) + b) := by
  obtain ⟨k, e⟩ := wrap_is (a + b)
  obtain ⟨m, f⟩ := wrap_is (a + c)
  rw [e, f]
  exact wrap_mod (by omega)
theorem wrap_sub2 (a b d : Int) : IntKind.wrap IntKind.i64 (IntKind.wrap IntKind.i64 (a + d) - IntKind.wrap IntKind.i64 (b + d)) = IntKind.wrap IntKind.i64 (a - b) := by
  obtain ⟨k, e⟩ := wrap_is (a + d)
  obtain ⟨m, f⟩ := wrap_is (b + d)
  rw [e, f]
  exact wrap_mod (by omega)
theorem wrap_sub4 (a b d q r : Int) : IntKind.wrap IntKind.i64 (IntKind.wrap IntKind.i64 (IntKind.wrap IntKind.i64 (IntKind.wrap IntKind.i64 (a + d) * 2) + q) - IntKind.wrap IntKind.i64 (IntKind.wrap IntKind.i64 (IntKind.wrap IntKind.i64 (b + d) * 2) + r)) =
    IntKind.wrap IntKind.i64 (IntKind.wrap IntKind.i64 (IntKind.wrap IntKind.i64 (a * 2) + q) - IntKind.wrap IntKind.i64 (IntKind.wrap IntKind.i64 (b * 2) + r)) := by
  obtain ⟨k1, e1⟩ := wrap_is (a + d)
  obtain ⟨k2, e2⟩ := wrap_is (b + d)
  rw [e1, e2]
  obtain ⟨k3, e3⟩ := wrap_is ((a + d + 18446744073709551616 * k1) * 2)
  obtain ⟨k4, e4⟩ := wrap_is ((b + d + 18446744073709551616 * k2) * 2)
  obtain ⟨k5, e5⟩ := wrap_is (a * 2)
  obtain ⟨k6, e6⟩ := wrap_is (b * 2)
  rw [e3, e4, e5, e6]
  obtain ⟨k7, e7⟩ := wrap_is ((a + d + 18446744073709551616 * k1) * 2 + 18446744073709551616 * k3 + q)
  obtain ⟨k8, e8⟩ := wrap_is ((b + d + 18446744073709551616 * k2) * 2 + 18446744073709551616 * k4 + r)
  obtain ⟨k9, e9⟩ := wrap_is (a * 2 + 18446744073709551616 * k5 + q)
  obtain ⟨k10, e10⟩ := wrap_is (b * 2 + 18446744073709551616 * k6 + r)
  rw [e7, e8, e9, e10]
  exact wrap_mod (by omega)
theorem vadd_2 (a b c : V) : vadd (vadd a b) c = vadd (vadd a c) b := by
  unfold vadd
  dsimp only
  rw [wrap_add2 a.1, wrap_add2 a.2.1, wrap_add2 a.2.2]
theorem vsub_2 (a b d : V) : vsub (vadd a d) (vadd b d) = vsub a b := by
  unfold vadd vsub
  dsimp only
  rw [wrap_sub2, wrap_sub2, wrap_sub2]

/-! ### Joints -/
theorem jl_moved (d : V) : ∀ (l : List V) (a : V), jl (vadd a d) l = (jl a l).map fun v => vadd v d
  | [], a => rfl
  | v :: r, a => by
    rw [jl, jl, List.map_cons, vadd_2, jl_moved d r]
/-- A path, moved. -/
def mvP (d : V) (p : Pth) : Pth := (vadd p.1 d, p.2)
theorem joints_moved {d : V} {p : Pth} (h : checkS p = 0) (h' : checkS (mvP d p) = 0) : jointsS (mvP d p) = (jointsS p).map fun v => vadd v d := by
  unfold jointsS
  rw [if_pos h, if_pos h']
  exact jl_moved d p.2 p.1
theorem getD_map {f : V → V} {l : List V} {n : Nat} (h : n < l.length) : (l.map f).getD n (0, 0, 0) = f (l.getD n (0, 0, 0)) := by
  rw [List.getD_eq_getElem?_getD, List.getD_eq_getElem?_getD, List.getElem?_map, List.getElem?_eq_getElem h]
  rfl
theorem allN_congr {p q : Int → Bool} : ∀ (n : Nat) (i : Int), (∀ k, i ≤ k → k < i + n → p k = q k) → allN p i n = allN q i n
  | 0, i, _ => rfl
  | n + 1, i, h => by rw [allN, allN, h i (Int.le_refl _) (by omega), allN_congr n (i + 1) fun k k1 k2 => h k (by omega) (by omega)]
theorem anyN_congr {p q : Int → Bool} : ∀ (n : Nat) (i : Int), (∀ k, i ≤ k → k < i + n → p k = q k) → anyN p i n = anyN q i n
  | 0, i, _ => rfl
  | n + 1, i, h => by rw [anyN, anyN, h i (Int.le_refl _) (by omega), anyN_congr n (i + 1) fun k k1 k2 => h k (by omega) (by omega)]
theorem csS_moved {d : V} {p : Pth} {l : List Src} (h : csS p l = 0) (h' : checkS (mvP d p) = 0) : csS (mvP d p) l = 0 := by
  have hc := (csS_zero h).1
  unfold csS at *
  rw [if_pos hc] at h
  rw [if_pos h']
  exact h
theorem known_moved {d : V} {p p' : Pth} {l l' : List Src} {r : Int} (h : csS p l = 0) (h' : csS p' l' = 0) (m : checkS (mvP d p) = 0) (m' : checkS (mvP d p') = 0) : knownS (mvP d p) l (mvP d p') l' r = knownS p l p' l' r := by
  have hb : bothS p l p' l' = 0 := by unfold bothS; rw [h]; simpa using h'
  have hb' : bothS (mvP d p) l (mvP d p') l' = 0 := by unfold bothS; rw [csS_moved h m]; simpa using csS_moved h' m'
  have c := (csS_zero h).1
  have c' := (csS_zero h').1
  have n1 : (jointsS p).length = p.2.length + 1 := by unfold jointsS; rw [if_pos c, jl_length]
  have n2 : (jointsS p').length = p'.2.length + 1 := by unfold jointsS; rw [if_pos c', jl_length]
  have e1 : touchN l (jointsS (mvP d p)) l' (jointsS (mvP d p')) r 0 = touchN l (jointsS p) l' (jointsS p') r 0 := by
    unfold touchN
    rw [joints_moved c m, joints_moved c' m', List.length_map, List.length_map]
    refine anyN_congr _ _ fun i i0 i1 => anyN_congr _ _ fun j j0 j1 => ?_
    unfold touchW
    rw [getD_map (by omega), getD_map (by omega), vsub_2]
  have e2 : clearW (mvP d p).2 l (jointsS (mvP d p)) (mvP d p').2 l' (jointsS (mvP d p')) r 0 = clearW p.2 l (jointsS p) p'.2 l' (jointsS p') r 0 := by
    unfold clearW
    rw [joints_moved c m, joints_moved c' m']
    show allN _ 0 (p.2.length - 0 : Int).toNat = _
    refine allN_congr _ _ fun i i0 i1 => allN_congr _ _ fun j j0 j1 => ?_
    replace j1 : j < 0 + (p'.2.length : Int) := j1
    unfold separateW sCentre
    rw [getD_map (by omega), getD_map (by omega)]
    have : vsub (vadd (vmul (vadd ((jointsS p).getD i.toNat (0, 0, 0)) d) 2) (p.2.getD i.toNat (0, 0, 0))) (vadd (vmul (vadd ((jointsS p').getD j.toNat (0, 0, 0)) d) 2) (p'.2.getD j.toNat (0, 0, 0))) =
        vsub (vadd (vmul ((jointsS p).getD i.toNat (0, 0, 0)) 2) (p.2.getD i.toNat (0, 0, 0))) (vadd (vmul ((jointsS p').getD j.toNat (0, 0, 0)) 2) (p'.2.getD j.toNat (0, 0, 0))) := by
      unfold vsub vadd vmul
      dsimp only
      rw [wrap_sub4, wrap_sub4, wrap_sub4]
    show emptyS (vsub (vadd (vmul (vadd ((jointsS p).getD i.toNat (0, 0, 0)) d) 2) (p.2.getD i.toNat (0, 0, 0))) (vadd (vmul (vadd ((jointsS p').getD j.toNat (0, 0, 0)) d) 2) (p'.2.getD j.toNat (0, 0, 0)))) _ = _
    rw [this]
    rfl
  unfold knownS
  rw [hb, hb', e1, e2]
theorem len_moved {d : V} {p : Pth} (h : checkS p = 0) (m : checkS (mvP d p) = 0) : lenS (mvP d p) = lenS p := by
  unfold lenS
  rw [if_pos h, if_pos m]
  rfl
theorem steep_moved {d : V} {p : Pth} (h : checkS p = 0) (m : checkS (mvP d p) = 0) : steepS (mvP d p) = steepS p := by
  unfold steepS
  rw [if_pos h, if_pos m]
  rfl

/-! ### Plans -/
/-- Near enough to be moved. -/
def nearV (B : Int) (v : V) : Prop := -B ≤ v.1 ∧ v.1 ≤ B ∧ -B ≤ v.2.1 ∧ v.2.1 ≤ B ∧ R64 v.2.2
def mvG (d : V) (g : Goal) : Goal := (g.1, g.2.1, g.2.2.1, g.2.2.2.1, (vadd g.2.2.2.2.1 d, vadd g.2.2.2.2.2 d))
structure Mv (d : V) (g : Goal) : Prop where
  x : -50000 ≤ d.1 ∧ d.1 ≤ 50000
  y : -50000 ≤ d.2.1 ∧ d.2.1 ≤ 50000
  z : d.2.2 = 0
  goal : GoalK g
theorem add_near {d v : V} {B : Int} (hx : -50000 ≤ d.1 ∧ d.1 ≤ 50000) (hy : -50000 ≤ d.2.1 ∧ d.2.1 ≤ 50000) (hz : d.2.2 = 0) (hv : nearV B v) (hB : B ≤ 10000000) : vadd v d = (v.1 + d.1, v.2.1 + d.2.1, v.2.2) := by
  obtain ⟨h1, h2, h3, h4, h5⟩ := hv
  unfold R64 at h5
  unfold vadd
  rw [hz, W_id (n := v.1 + d.1) (by omega) (by omega), W_id (n := v.2.1 + d.2.1) (by omega) (by omega), Int.add_zero, W_id (n := v.2.2) (by omega) (by omega)]
theorem valid_moved {d v : V} {g : Goal} (m : Mv d g) (hv : nearV 900000 v) : validS (vadd v d) = validS v := by
  rw [add_near m.x m.y m.z hv (by decide)]
  obtain ⟨h1, h2, h3, h4, h5⟩ := hv
  have := m.x
  have := m.y
  unfold validS inB
  congr 1
  · exact decide_eq_decide.2 (by dsimp only; omega)
theorem within_moved {d v : V} {g : Goal} (m : Mv d g) (hv : nearV 900000 v) : withinS (vadd v d) (mvG d g).2.2.2.2 = withinS v g.2.2.2.2 := by
  have lo := m.goal.lo
  have hi := m.goal.hi
  rw [inB_iff] at lo hi
  have hv' := hv
  obtain ⟨h1, h2, h3, h4, h5⟩ := hv
  have n1 : nearV 1050000 g.2.2.2.2.1 := ⟨by omega, by omega, by omega, by omega, by unfold R64; omega⟩
  have n2 : nearV 1050000 g.2.2.2.2.2 := ⟨by omega, by omega, by omega, by omega, by unfold R64; omega⟩
  unfold withinS mvG
  dsimp only
  rw [add_near m.x m.y m.z hv' (by decide), add_near m.x m.y m.z n1 (by decide), add_near m.x m.y m.z n2 (by decide)]
  exact decide_eq_decide.2 (by dsimp only; omega)
theorem here_moved {d v : V} {g : Goal} (m : Mv d g) (hv : nearV 900000 v) (now : List V) (len : Int) (b : Best) : hereS (mvG d g) now (vadd v d) len b = hereS g now v len b := by
  unfold hereS
  rw [within_moved m hv]
theorem leg_near {g : Goal} (h : GoalK g) {D : V} (hD : D ∈ g.1) {k : Int} (hk : 1 ≤ k) (hk4 : k ≤ 4) {v : V} {B : Int} (hv : nearV B v) (hB : B ≤ 1000000) : nearV (B + 16000) (vadd v (vmul D k)) := by
  have hd := (kDir_goal (h.dirs.all D hD)).2
  rw [vmul_eq hd (k := k) (K := 4) (by omega) (by decide)]
  rw [inB_iff] at hd
  have m1 := mulB (a := D.1) (b := k) (A := 4000) (B := 4) (by omega) (by omega)
  have m2 := mulB (a := D.2.1) (b := k) (A := 4000) (B := 4) (by omega) (by omega)
  obtain ⟨h1, h2, h3, h4, h5⟩ := hv
  unfold vadd nearV
  dsimp only
  rw [W_id (n := v.1 + D.1 * k) (by omega) (by omega), W_id (n := v.2.1 + D.2.1 * k) (by omega) (by omega)]
  exact ⟨by omega, by omega, by omega, by omega, R64_W _⟩
theorem k_moved {d : V} {g : Goal} (m : Mv d g) {now : List V} {a D : V} {i len n B : Int} {rec rec' : List V → V → V → Int → Int → Best → Best} (hD : D ∈ g.1) (ha : nearV B a) (hB : B ≤ 800000)
    (hrec : ∀ (now : List V) (a bf : V) (dir len : Int) (b : Best), nearV (B + 16000) a → rec' now (vadd a d) bf dir len b = rec now a bf dir len b) :
    ∀ (j : Nat) (k : Int) (b : Best), 1 ≤ k → k + j ≤ 5 → kR rec' now (vadd a d) D i len n j k b = kR rec now a D i len n j k b
  | 0, k, b, _, _ => rfl
  | j + 1, k, b, h1, h2 => by
    have hn := leg_near m.goal hD h1 (by omega) ha (by omega)
    have hn' : nearV 900000 (vadd a (vmul D k)) := by
      obtain ⟨q1, q2, q3, q4, q5⟩ := hn
      exact ⟨by omega, by omega, by omega, by omega, q5⟩
    rw [kR, kR, vadd_2 a d, valid_moved m hn', hrec _ _ _ _ _ _ hn, k_moved m hD ha hB hrec j (k + 1) _ (by omega) (by omega)]
theorem d_moved {d : V} {g : Goal} (m : Mv d g) {now : List V} {a bf : V} {dir len B : Int} {rec rec' : List V → V → V → Int → Int → Best → Best} (ha : nearV B a) (hB : B ≤ 800000)
    (hrec : ∀ (now : List V) (a bf : V) (dir len : Int) (b : Best), nearV (B + 16000) a → rec' now (vadd a d) bf dir len b = rec now a bf dir len b) :
    ∀ (l : List V) (i : Int) (b : Best), (∀ D ∈ l, D ∈ g.1) → dR rec' (mvG d g) now (vadd a d) bf dir len l i b = dR rec g now a bf dir len l i b
  | [], i, b, _ => rfl
  | D :: r, i, b, h => by
    have m4 := m.goal.mult
    rw [dR, dR, show kR rec' now (vadd a d) D i len (wholeS D).1 (mvG d g).2.1.toNat 1 b = kR rec now a D i len (wholeS D).1 g.2.1.toNat 1 b from k_moved m (h D (by simp)) ha hB hrec g.2.1.toNat 1 b (by decide) (by omega), d_moved m ha hB hrec r (i + 1) _ fun D hD => h D (by simp [hD])]
    rfl
theorem walk_moved {d : V} {g : Goal} (m : Mv d g) : ∀ (j : Nat) (now : List V) (a bf : V) (dir len : Int) (b : Best) (B : Int), nearV B a → B + 16000 * j ≤ 800000 → walkR (mvG d g) j now (vadd a d) bf dir len b = walkR g j now a bf dir len b
  | 0, now, a, bf, dir, len, b, B, ha, hB => here_moved m (by obtain ⟨q1, q2, q3, q4, q5⟩ := ha; exact ⟨by omega, by omega, by omega, by omega, q5⟩) now len b
  | j + 1, now, a, bf, dir, len, b, B, ha, hB => by
    rw [walkR, walkR, here_moved m (by obtain ⟨q1, q2, q3, q4, q5⟩ := ha; exact ⟨by omega, by omega, by omega, by omega, q5⟩) now len b]
    exact d_moved m ha (by omega) (fun now a bf dir len b hn => walk_moved m j now a bf dir len b (B + 16000) hn (by omega)) g.1 0 _ fun D hD => hD
theorem plan_moved {d : V} {g : Goal} (m : Mv d g) {v first : V} (hv : validS v = true) (hn : nearV 20000 v) (hm : validS (vadd v d) = true) :
    (planS (vadd v d) first (mvG d g)).2 = (planS v first g).2 ∧ (planS (vadd v d) first (mvG d g)).1.2 = (planS v first g).1.2 := by
  have e : goalS (mvG d g) = goalS g := by
    have lo := m.goal.lo
    have hi := m.goal.hi
    rw [inB_iff] at lo hi
    have n1 : nearV 1050000 g.2.2.2.2.1 := ⟨by omega, by omega, by omega, by omega, by unfold R64; omega⟩
    have n2 : nearV 1050000 g.2.2.2.2.2 := ⟨by omega, by omega, by omega, by omega, by unfold R64; omega⟩
    have hb : badG (mvG d g) ↔ badG g := by
      unfold badG mvG
      dsimp only
      rw [add_near m.x m.y m.z n1 (by decide), add_near m.x m.y m.z n2 (by decide)]
      dsimp only
      omega
    unfold goalS
    rw [show (mvG d g).1 = g.1 from rfl]
    simp only [hb]
  have w := walk_moved m g.2.2.1.toNat [] v first (-1) 0 ([], -1) 20000 hn (by have := m.goal.legs; omega)
  unfold planS
  rw [e, hv, hm, show (mvG d g).2.2.1 = g.2.2.1 from rfl, w]
  split
  · exact ⟨rfl, rfl⟩
  · split
    · exact ⟨rfl, rfl⟩
    · split
      · exact ⟨rfl, rfl⟩
      · split <;> exact ⟨rfl, rfl⟩

end
end Go.MP
