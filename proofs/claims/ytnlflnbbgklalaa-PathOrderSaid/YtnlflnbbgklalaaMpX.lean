/- The law PathErrors: wells that are separate stay apart under every shift of their sources; wells that touch not do so at their joints. -/
import Derived.Test.YtnlflnbbgklalaaMpW
import Derived.Test.YtnlflnbbgklalaaMpS
namespace Go.MP
open Go Go.Sx Go.Proofs
set_option linter.unusedVariables false
set_option linter.unusedSimpArgs false
noncomputable section

/-! ### Bounds -/
theorem inB_comp {v : V} {n : Int} (h : ∀ a, 0 ≤ a → a < 3 → -n ≤ comp v a ∧ comp v a ≤ n) : inB v n = true := by
  rw [inB_iff]
  exact ⟨h 0 (by omega) (by omega), h 1 (by omega) (by omega), h 2 (by omega) (by omega)⟩
theorem sh_in {l : List Src} (h : okSh l) {s : Src} (hs : s ∈ l) (j : Int) : inB (shiftS s j) 4000 = true :=
  inB_comp fun a h0 h1 => comp_shift h0 h1 (h s hs).1 (h s hs).2
theorem per_in {l : List Src} (h : okSh l) {s : Src} (hs : s ∈ l) (n : Nat) : inB (s.2.getD n (0, 0, 0)) 200 = true := by
  by_cases hn : n < s.2.length
  · have := (h s hs).1
    unfold pB at this
    rw [List.any_eq_false] at this
    have := this _ (getD_mem (d := (0, 0, 0)) hn)
    unfold far200 at this
    simpa using this
  · rw [List.getD_eq_getElem?_getD, List.getElem?_eq_none (by omega), Option.getD_none]
    decide
theorem sh_step {s : Src} {i : Int} (h0 : 0 ≤ i) (h1 : i < s.2.length) : shiftS s (i + 1) = vadd (shiftS s i) (s.2.getD i.toNat (0, 0, 0)) := by
  unfold shiftS
  rw [show (i + 1).toNat = i.toNat + 1 by omega, take_snoc (0, 0, 0) (by omega), List.foldl_append]
  rfl
theorem sh_next {l : List Src} (h : okSh l) {s : Src} (hs : s ∈ l) {i : Int} (h0 : 0 ≤ i) (h1 : i < s.2.length) : shiftS s (i + 1) = za (shiftS s i) (s.2.getD i.toNat (0, 0, 0)) := by
  rw [sh_step h0 h1, vadd_za (sh_in h hs i) (per_in h hs _) (by omega)]
theorem srcS_mem {l : List Src} {k : Int} (ha : l.any (idB k) = true) : srcS l k ∈ l := by
  unfold srcS
  cases hf : l.find? (idB k) with
  | none =>
    rw [List.find?_eq_none] at hf
    obtain ⟨s, hs, e⟩ := List.any_eq_true.1 ha
    exact absurd e (hf s hs)
  | some s => exact List.mem_of_find?_eq_some hf
theorem wat_in {l : List Src} (h : okSh l) (k j : Int) : inB (watS l k j) 4000 = true := by
  unfold watS
  cases ha : l.any (idB k) with
  | false => rfl
  | true => exact sh_in h (srcS_mem ha) j
theorem dot_wat {n : V} {l : List Src} {k j : Int} : dotZ n (watS l k j) = lk (fun s => dotZ n (shiftS s j)) l k := by
  unfold watS lk
  cases l.any (idB k)
  · simp [dotZ_0]
  · rfl
theorem lk_add {f g : Src → Int} {l : List Src} (k : Int) : lk (fun s => f s + g s) l k = lk f l k + lk g l k := by
  unfold lk
  cases l.any (idB k) <;> simp
theorem mid_za {l : List Src} (h : okSh l) (k i : Int) : midS l k i = za (watS l k i) (watS l k (i + 1)) := vadd_za (wat_in h k i) (wat_in h k (i + 1)) (by omega)
theorem mid_in {l : List Src} (h : okSh l) (k i : Int) : inB (midS l k i) 8000 = true := by
  rw [mid_za h]; exact inB_za (wat_in h k i) (wat_in h k (i + 1))
theorem tGen_zs {la lb : List Src} (ha : okSh la) (hb : okSh lb) (i j k : Int) : tGen la i lb j k = zs (watS la k i) (watS lb k j) ∧ inB (tGen la i lb j k) 131072 = true := by
  have e : tGen la i lb j k = zs (watS la k i) (watS lb k j) := vsub_zs (wat_in ha k i) (wat_in hb k j) (by omega)
  exact ⟨e, by rw [e]; exact inB_mono (inB_zs (wat_in ha k i) (wat_in hb k j)) (by omega)⟩
theorem sGen_zs {la lb : List Src} (ha : okSh la) (hb : okSh lb) (i j k : Int) : sGen la i lb j k = zs (midS la k i) (midS lb k j) ∧ inB (sGen la i lb j k) 131072 = true := by
  have e : sGen la i lb j k = zs (midS la k i) (midS lb k j) := vsub_zs (mid_in ha k i) (mid_in hb k j) (by omega)
  exact ⟨e, by rw [e]; exact inB_mono (inB_zs (mid_in ha k i) (mid_in hb k j)) (by omega)⟩

/-! ### The reach of the sides -/
theorem reachZ_map {α : Type} (n : V) (f : α → V) : ∀ l : List α, reachZ n (l.map f) = sumI (fun k => ((dotZ n (f k)).natAbs : Int)) l
  | [] => rfl
  | a :: l => by rw [List.map_cons, reachZ, sumI, reachZ_map n f l]
theorem reach_tSides {n : V} {la lb : List Src} {i j r : Int} (hr : 0 ≤ r) : reachZ n (tSides la i lb j r) = sumI (fun k => ((dotZ n (tGen la i lb j k)).natAbs : Int)) (idsS la lb) + r * ((n.1.natAbs : Int) + n.2.1.natAbs + n.2.2.natAbs) := by
  unfold tSides gens
  rw [reachZ_append, List.nil_append, reachZ_filter, reachZ_filter, reachZ_map, boxV_reach hr]
theorem reach_sSides {n : V} {qa qb : List V} {la lb : List Src} {i j r : Int} (hr : 0 ≤ r) : reachZ n (sSides qa la i qb lb j r) =
    ((dotZ n (qa.getD i.toNat (0, 0, 0))).natAbs : Int) + ((dotZ n (qb.getD j.toNat (0, 0, 0))).natAbs : Int) + sumI (fun k => ((dotZ n (sGen la i lb j k)).natAbs : Int)) (idsS la lb)
    + sumI (fun s : Src => ((dotZ n (s.2.getD i.toNat (0, 0, 0))).natAbs : Int)) la + sumI (fun s : Src => ((dotZ n (s.2.getD j.toNat (0, 0, 0))).natAbs : Int)) lb + r * ((n.1.natAbs : Int) + n.2.1.natAbs + n.2.2.natAbs) := by
  unfold sSides perG gens
  rw [reachZ_append, reachZ_append, reachZ_append, reachZ_append, reachZ_filter, reachZ_filter, reachZ_filter, reachZ_filter, reachZ_filter, reachZ_map, reachZ_map, reachZ_map, boxV_reach hr]
  simp only [reachZ]
  omega
theorem boxV_in {r : Int} (h : 0 ≤ r) (h1 : r ≤ 131072) : ∀ g ∈ boxV r, inB g 131072 = true := by
  intro g hg
  unfold boxV at hg
  simp only [List.mem_cons, List.not_mem_nil, or_false] at hg
  rcases hg with rfl | rfl | rfl <;> (rw [inB_iff]; simp only []; omega)
theorem tSides_in {la lb : List Src} (ha : okSh la) (hb : okSh lb) {i j r : Int} (hr : 0 ≤ r) (hr' : r ≤ 131072) : ∀ g ∈ tSides la i lb j r, inB g 131072 = true := by
  intro g hg
  unfold tSides gens at hg
  rw [List.nil_append] at hg
  rcases List.mem_append.1 hg with h | h
  · obtain ⟨k, _, rfl⟩ := List.mem_map.1 (List.mem_filter.1 h).1
    exact (tGen_zs ha hb i j k).2
  · exact boxV_in hr hr' g (List.mem_filter.1 h).1
theorem sSides_in {qa qb : List V} (hqa : ∀ n, inB (qa.getD n (0, 0, 0)) 131072 = true) (hqb : ∀ n, inB (qb.getD n (0, 0, 0)) 131072 = true) {la lb : List Src} (ha : okSh la) (hb : okSh lb) {i j r : Int} (hr : 0 ≤ r) (hr' : r ≤ 131072) :
    ∀ g ∈ sSides qa la i qb lb j r, inB g 131072 = true := by
  intro g hg
  unfold sSides perG gens at hg
  simp only [List.mem_append] at hg
  rcases hg with (((h | h) | h) | h) | h
  · have := (List.mem_filter.1 h).1
    simp only [List.mem_cons, List.not_mem_nil, or_false] at this
    rcases this with rfl | rfl
    · exact hqa _
    · exact hqb _
  · obtain ⟨k, _, rfl⟩ := List.mem_map.1 (List.mem_filter.1 h).1
    exact (sGen_zs ha hb i j k).2
  · obtain ⟨s, hs, rfl⟩ := List.mem_map.1 (List.mem_filter.1 h).1
    exact inB_mono (per_in ha hs _) (by omega)
  · obtain ⟨s, hs, rfl⟩ := List.mem_map.1 (List.mem_filter.1 h).1
    exact inB_mono (per_in hb hs _) (by omega)
  · exact boxV_in hr hr' g (List.mem_filter.1 h).1
theorem boxV_len (r : Int) : ((boxV r).filter nzB).length ≤ 3 := by
  have := List.length_filter_le nzB (boxV r)
  simpa [boxV] using this
theorem ids_len (la lb : List Src) : (idsS la lb).length ≤ la.length + lb.length := by
  have := addId_length (la ++ lb) []
  rw [List.length_append] at this
  unfold idsS
  simp only [List.length_nil, Nat.zero_add] at this
  exact this
theorem tSides_len {la lb : List Src} {i j r : Int} : (tSides la i lb j r).length ≤ la.length + lb.length + 3 := by
  unfold tSides gens
  have h1 := List.length_filter_le nzB ((idsS la lb).map (tGen la i lb j))
  have h2 := boxV_len r
  have h3 := ids_len la lb
  rw [List.length_map] at h1
  rw [List.length_append, List.length_append]
  simp only [List.length_nil]
  omega
theorem sSides_len {qa qb : List V} {la lb : List Src} {i j r : Int} : (sSides qa la i qb lb j r).length ≤ 2 * la.length + 2 * lb.length + 5 := by
  unfold sSides
  rw [List.length_append]
  have h0 := boxV_len r
  have h1 := perG_length j (perG i (gens (sGen la i lb j) ([qa.getD i.toNat (0, 0, 0), qb.getD j.toNat (0, 0, 0)].filter nzB) (idsS la lb)) la) lb
  have h2 := perG_length i (gens (sGen la i lb j) ([qa.getD i.toNat (0, 0, 0), qb.getD j.toNat (0, 0, 0)].filter nzB) (idsS la lb)) la
  have h3 : (gens (sGen la i lb j) ([qa.getD i.toNat (0, 0, 0), qb.getD j.toNat (0, 0, 0)].filter nzB) (idsS la lb)).length ≤ 2 + (idsS la lb).length := by
    unfold gens
    rw [List.length_append]
    have a1 := List.length_filter_le nzB [qa.getD i.toNat (0, 0, 0), qb.getD j.toNat (0, 0, 0)]
    have a2 := List.length_filter_le nzB ((idsS la lb).map (sGen la i lb j))
    rw [List.length_map] at a2
    simp only [List.length_cons, List.length_nil] at a1
    omega
  have h4 := ids_len la lb
  omega

/-! ### Sums over sources, by their IDs -/
theorem sums_bound {cf : Int → Int} (hc : ∀ k, -1000 ≤ cf k ∧ cf k ≤ 1000) {la lb : List Src} (da : distinct la) (db : distinct lb) (f g : Src → Int) :
    ((sumI (fun s => cf s.1 * f s) la - sumI (fun s => cf s.1 * g s) lb).natAbs : Int) ≤ 1000 * sumI (fun k => ((lk f la k - lk g lb k).natAbs : Int)) (idsS la lb) := by
  have hn : (idsS la lb).Nodup := nodup_idsR (l := la ++ lb) List.nodup_nil
  have ea := lk_sum (h := fun s => cf s.1 * f s) hn da fun s hs => mem_idsR.2 (.inr ⟨s, List.mem_append_left _ hs, rfl⟩)
  have eb := lk_sum (h := fun s => cf s.1 * g s) hn db fun s hs => mem_idsR.2 (.inr ⟨s, List.mem_append_right _ hs, rfl⟩)
  rw [← ea, ← eb, ← sumI_sub]
  refine sumI_abs fun k _ => ?_
  rw [lk_mul (h := f), lk_mul (h := g), ← Int.mul_sub]
  have := mul_abs (x := lk f la k - lk g lb k) (hc k)
  rw [Int.mul_comm]
  omega
theorem sum_bound {cf : Int → Int} (hc : ∀ k, -1000 ≤ cf k ∧ cf k ≤ 1000) (f : Src → Int) (l : List Src) : ((sumI (fun s => cf s.1 * f s) l).natAbs : Int) ≤ 1000 * sumI (fun s => ((f s).natAbs : Int)) l :=
  sumI_abs fun s _ => by have := mul_abs (x := f s) (hc s.1); rw [Int.mul_comm]; omega

/-! ### The actual joints -/
theorem zm_in {v : V} {A k K : Int} (hv : inB v A = true) (hk : -K ≤ k ∧ k ≤ K) : inB (zm k v) (K * A) = true := by
  rw [inB_iff] at *
  exact ⟨mulB hk hv.1, mulB hk hv.2.1, mulB hk hv.2.2⟩
theorem vmul_zm {v : V} {A k K : Int} (hv : inB v A = true) (hk : -K ≤ k ∧ k ≤ K) (h : K * A ≤ 4611686018427387904) : vmul v k = zm k v := by
  have := zm_in hv hk
  rw [inB_iff] at this
  simp only [zm] at this
  unfold vmul zm
  rw [Int.mul_comm v.1, Int.mul_comm v.2.1, Int.mul_comm v.2.2, W_id (by omega) (by omega), W_id (by omega) (by omega), W_id (by omega) (by omega)]
theorem actR_dot {cf : Int → Int} (hc : ∀ k, -1000 ≤ cf k ∧ cf k ≤ 1000) {ch : List Int} {j : Int} (n : V) : ∀ (l : List Src) (i : Int) (v : V) (B : Int), 0 ≤ i → ch.drop i.toNat = l.map (fun s => cf s.1) → okSh l → inB v B = true → B + 4000000 * l.length ≤ 1000000000000 →
    (actR ch j i v l).2 = true ∧ dotZ n (actR ch j i v l).1 = dotZ n v + sumI (fun s => cf s.1 * dotZ n (shiftS s j)) l ∧ inB (actR ch j i v l).1 (B + 4000000 * l.length) = true
  | [], i, v, B, _, _, _, hv, _ => by
    refine ⟨rfl, ?_, ?_⟩
    · simp [actR, sumI]
    · simpa [actR] using hv
  | s :: r, i, v, B, h0, hd, ho, hv, hB => by
    rw [List.length_cons] at hB
    have hl : i.toNat < ch.length := by
      by_cases h : i.toNat < ch.length
      · exact h
      · rw [List.drop_eq_nil_of_le (by omega)] at hd; simp at hd
    rw [List.drop_eq_getElem_cons hl, List.map_cons, List.cons.injEq] at hd
    have hg : ch.getD i.toNat 0 = cf s.1 := by
      rw [List.getD_eq_getElem?_getD, List.getElem?_eq_getElem hl, Option.getD_some]; exact hd.1
    have hs := sh_in ho (s := s) (by simp) j
    have hz := zm_in hs (hc s.1)
    have e : vadd v (vmul (shiftS s j) (cf s.1)) = za v (zm (cf s.1) (shiftS s j)) := by
      rw [vmul_zm hs (hc s.1) (by omega), vadd_za hv hz (by omega)]
    have := actR_dot hc (ch := ch) (j := j) n r (i + 1) (za v (zm (cf s.1) (shiftS s j))) (B + 4000000) (by omega) (by rw [show (i + 1).toNat = i.toNat + 1 by omega]; exact hd.2) (fun u hu => ho u (by simp [hu])) (inB_za hv hz) (by omega)
    rw [actR, if_neg (by rw [hg]; have := hc s.1; omega), hg, e]
    refine ⟨this.1, ?_, ?_⟩
    · rw [this.2.1, dotZ_za, dotZ_zm, sumI]; omega
    · have h2 := this.2.2
      rw [List.length_cons]
      exact inB_mono h2 (by omega)
/-- Coefficients by the sources' IDs. -/
def cfL (cf : Int → Int) (l : List Src) : List Int := l.map fun s => cf s.1
theorem actual_dot {cf : Int → Int} (hc : ∀ k, -1000 ≤ cf k ∧ cf k ≤ 1000) {p : Pth} {l : List Src} {j : Int} (hs : csS p l = 0) (h0 : 0 ≤ j) (h1 : j ≤ p.2.length) :
    (actualS p l (cfL cf l) j).2 = 0 ∧ inB (actualS p l (cfL cf l) j).1 2000000000 = true ∧ ∀ n, dotZ n (actualS p l (cfL cf l) j).1 = 1000 * dotZ n ((jointsS p).getD j.toNat (0, 0, 0)) + sumI (fun s => cf s.1 * dotZ n (shiftS s j)) l := by
  have ho := csS_okSh hs
  obtain ⟨hck, h4, h5⟩ := csS_zero hs
  have hJ := joint_in hck j.toNat
  have hm := vmul_zm (k := 1000) (K := 1000) hJ (by omega) (by omega)
  have hz := zm_in (k := 1000) (K := 1000) hJ (by omega)
  have hA := fun n => actR_dot hc (ch := cfL cf l) (j := j) n l 0 (vmul ((jointsS p).getD j.toNat (0, 0, 0)) 1000) (1000 * 1048576) (by omega) (by unfold cfL; rfl) ho (by rw [hm]; exact hz) (by omega)
  have hw : (whereS p l j).2 = 0 := by
    unfold whereS
    rw [if_neg (by simp [hs]), if_neg (by simp [h0, h1])]
  rw [actualS_val hw (by simp [cfL]) (hA (0, 0, 0)).1]
  refine ⟨rfl, inB_mono (hA (0, 0, 0)).2.2 (by omega), fun n => ?_⟩
  rw [(hA n).2.1, hm, dotZ_zm]

/-! ### A place on a leg -/
def onZ (t : Int) (a b : V) : V := za (zm (1000 - t) a) (zm t b)
theorem onZ_in {t : Int} (h0 : 0 ≤ t) (h1 : t ≤ 1000) {a b : V} (ha : inB a 2000000000 = true) (hb : inB b 2000000000 = true) : inB (onZ t a b) 4000000000000 = true :=
  inB_mono (inB_za (zm_in ha (k := 1000 - t) (K := 1000) (by omega)) (zm_in hb (k := t) (K := 1000) (by omega))) (by omega)
theorem legs_in {p : Pth} (h : checkS p = 0) (n : Nat) : inB (p.2.getD n (0, 0, 0)) 131072 = true := by
  by_cases hn : n < p.2.length
  · have := checkS_legs h _ (getD_mem (d := (0, 0, 0)) hn)
    exact inB_mono (leg_in this) this.2.2
  · rw [List.getD_eq_getElem?_getD, List.getElem?_eq_none (by omega), Option.getD_none]
    decide
theorem joint_next {p : Pth} (h : checkS p = 0) {i : Int} (h0 : 0 ≤ i) (h1 : i < p.2.length) : (jointsS p).getD (i + 1).toNat (0, 0, 0) = za ((jointsS p).getD i.toNat (0, 0, 0)) (p.2.getD i.toNat (0, 0, 0)) := by
  have hj : jointsS p = jl p.1 p.2 := if_pos h
  have hJ := joint_in h i.toNat
  rw [hj] at *
  rw [show (i + 1).toNat = i.toNat + 1 by omega, jl_next _ _ _ (by omega), vadd_za hJ (legs_in h _) (by omega)]
theorem on_dot {cf : Int → Int} (hc : ∀ k, -1000 ≤ cf k ∧ cf k ≤ 1000) {p : Pth} {l : List Src} {i t : Int} (hs : csS p l = 0) (h0 : 0 ≤ i) (h1 : i < p.2.length) (t0 : 0 ≤ t) (t1 : t ≤ 1000) (n : V) :
    ∃ E : Int, 2 * dotZ n (onZ t (actualS p l (cfL cf l) i).1 (actualS p l (cfL cf l) (i + 1)).1) = 1000000 * (2 * dotZ n ((jointsS p).getD i.toNat (0, 0, 0)) + dotZ n (p.2.getD i.toNat (0, 0, 0))) + 1000 * sumI (fun s => cf s.1 * (dotZ n (shiftS s i) + dotZ n (shiftS s (i + 1)))) l + E ∧
      (E.natAbs : Int) ≤ 1000000 * ((dotZ n (p.2.getD i.toNat (0, 0, 0))).natAbs : Int) + 1000000 * sumI (fun s : Src => ((dotZ n (s.2.getD i.toNat (0, 0, 0))).natAbs : Int)) l := by
  have ho := csS_okSh hs
  obtain ⟨hck, h4, h5⟩ := csS_zero hs
  have a0 := (actual_dot hc hs h0 (by omega)).2.2 n
  have a1 := (actual_dot hc hs (j := i + 1) (by omega) (by omega)).2.2 n
  rw [joint_next hck h0 h1, dotZ_za] at a1
  have eP : sumI (fun s => cf s.1 * dotZ n (shiftS s (i + 1))) l = sumI (fun s => cf s.1 * dotZ n (shiftS s i)) l + sumI (fun s => cf s.1 * dotZ n (s.2.getD i.toNat (0, 0, 0))) l := by
    rw [← sumI_add]
    exact sumI_congr fun s hm => by rw [sh_next ho hm h0 (by rw [h5 s hm]; exact h1), dotZ_za, Int.mul_add]
  have eM : sumI (fun s => cf s.1 * (dotZ n (shiftS s i) + dotZ n (shiftS s (i + 1)))) l = sumI (fun s => cf s.1 * dotZ n (shiftS s i)) l + sumI (fun s => cf s.1 * dotZ n (shiftS s (i + 1))) l := by
    rw [← sumI_add]
    exact sumI_congr fun s hm => Int.mul_add _ _ _
  have hb := sum_bound hc (fun s => dotZ n (s.2.getD i.toNat (0, 0, 0))) l
  unfold onZ
  rw [dotZ_za, dotZ_zm, dotZ_zm, a0, a1, eM, eP]
  generalize sumI (fun s => cf s.1 * dotZ n (shiftS s i)) l = U at *
  generalize sumI (fun s => cf s.1 * dotZ n (s.2.getD i.toNat (0, 0, 0))) l = P at *
  generalize dotZ n ((jointsS p).getD i.toNat (0, 0, 0)) = J at *
  generalize dotZ n (p.2.getD i.toNat (0, 0, 0)) = x at *
  refine ⟨(1000 * x + P) * (2 * t - 1000), ?_, ?_⟩
  · grind
  · have := mul_abs (x := 1000 * x + P) (c := 2 * t - 1000) (by omega)
    omega
theorem dot_sub {n a b : V} : dotZ n (zs a b) = dotZ n a - dotZ n b := dotZ_zs n a b

/-! ### Apart -/
def apart (P : V) (R : Int) : Prop := R < P.1.natAbs ∨ R < P.2.1.natAbs ∨ R < P.2.2.natAbs
theorem far_apart {a b : V} {A R : Int} (ha : inB a A = true) (hb : inB b A = true) (hA : A ≤ 1000000000000000) (h : apart (zs a b) R) : farS a b R = true := by
  rw [inB_iff] at ha hb
  unfold apart zs at h
  unfold farS
  rw [W_id (n := a.1 - b.1) (by omega) (by omega), W_id (n := a.2.1 - b.2.1) (by omega) (by omega), W_id (n := a.2.2 - b.2.2) (by omega) (by omega), W_id (n := 0 - (a.1 - b.1)) (by omega) (by omega), W_id (n := 0 - (a.2.1 - b.2.1)) (by omega) (by omega), W_id (n := 0 - (a.2.2 - b.2.2)) (by omega) (by omega)]
  rcases h with h | h | h
  · rw [decide_eq_true (show R < a.1 - b.1 ∨ R < 0 - (a.1 - b.1) by simp only [] at h; omega)]; rfl
  · rw [decide_eq_true (show R < a.2.1 - b.2.1 ∨ R < 0 - (a.2.1 - b.2.1) by simp only [] at h; omega)]; simp
  · rw [decide_eq_true (show R < a.2.2 - b.2.2 ∨ R < 0 - (a.2.2 - b.2.2) by simp only [] at h; omega)]; simp
theorem centre_zs {p p' : Pth} (h : checkS p = 0) (h' : checkS p' = 0) (i j : Int) :
    sCentre p.2 (jointsS p) i p'.2 (jointsS p') j = zs (za (zm 2 ((jointsS p).getD i.toNat (0, 0, 0))) (p.2.getD i.toNat (0, 0, 0))) (za (zm 2 ((jointsS p').getD j.toNat (0, 0, 0))) (p'.2.getD j.toNat (0, 0, 0))) ∧ inB (sCentre p.2 (jointsS p) i p'.2 (jointsS p') j) 8388608 = true := by
  have a1 := joint_in h i.toNat
  have b1 := joint_in h' j.toNat
  have a2 := legs_in h i.toNat
  have b2 := legs_in h' j.toNat
  have a3 := inB_za (inB_zm2 a1) a2
  have b3 := inB_za (inB_zm2 b1) b2
  have e : sCentre p.2 (jointsS p) i p'.2 (jointsS p') j = zs (za (zm 2 ((jointsS p).getD i.toNat (0, 0, 0))) (p.2.getD i.toNat (0, 0, 0))) (za (zm 2 ((jointsS p').getD j.toNat (0, 0, 0))) (p'.2.getD j.toNat (0, 0, 0))) := by
    unfold sCentre
    rw [vmul_zm2 a1 (by omega), vmul_zm2 b1 (by omega), vadd_za (inB_zm2 a1) a2 (by omega), vadd_za (inB_zm2 b1) b2 (by omega), vsub_zs a3 b3 (by omega)]
  exact ⟨e, by rw [e]; exact inB_mono (inB_zs a3 b3) (by omega)⟩
theorem separate_normal {p p' : Pth} {l l' : List Src} {i j r : Int} (h : csS p l = 0) (h' : csS p' l' = 0) (r0 : 0 ≤ r) (r1 : r ≤ 4000) :
    (separateW p.2 l (jointsS p) i p'.2 l' (jointsS p') j r = true) → ∃ n, sepZ (sCentre p.2 (jointsS p) i p'.2 (jointsS p') j) (sSides p.2 l i p'.2 l' j (2 * r)) n := by
  intro hs
  unfold separateW at hs
  rw [W_id (n := 2 * r) (by omega) (by omega)] at hs
  obtain ⟨a1, a2, _⟩ := csS_zero h
  obtain ⟨b1, b2, _⟩ := csS_zero h'
  refine empty_normal (centre_zs a1 b1 i j).2 (sSides_in (legs_in a1) (legs_in b1) (csS_okSh h) (csS_okSh h') (by omega) (by omega)) ?_ hs
  have := sSides_len (qa := p.2) (qb := p'.2) (la := l) (lb := l') (i := i) (j := j) (r := 2 * r)
  omega
theorem separate_apart {p p' : Pth} {l l' : List Src} {i j r t u : Int} {cf : Int → Int} (hc : ∀ k, -1000 ≤ cf k ∧ cf k ≤ 1000) (h : csS p l = 0) (h' : csS p' l' = 0) (r0 : 0 ≤ r) (r1 : r ≤ 4000)
    (i0 : 0 ≤ i) (i1 : i < p.2.length) (j0 : 0 ≤ j) (j1 : j < p'.2.length) (t0 : 0 ≤ t) (t1 : t ≤ 1000) (u0 : 0 ≤ u) (u1 : u ≤ 1000)
    (hs : separateW p.2 l (jointsS p) i p'.2 l' (jointsS p') j r = true) :
    apart (zs (onZ t (actualS p l (cfL cf l) i).1 (actualS p l (cfL cf l) (i + 1)).1) (onZ u (actualS p' l' (cfL cf l') j).1 (actualS p' l' (cfL cf l') (j + 1)).1)) (1000000 * r) := by
  obtain ⟨n, hn⟩ := separate_normal h h' r0 r1 hs
  obtain ⟨a1, a2, _⟩ := csS_zero h
  obtain ⟨b1, b2, _⟩ := csS_zero h'
  obtain ⟨E, e1, e2⟩ := on_dot hc h i0 i1 t0 t1 n
  obtain ⟨F, f1, f2⟩ := on_dot hc h' j0 j1 u0 u1 n
  refine out_of_box (n := n) (by omega) ?_
  rw [dotZ_zs]
  unfold sepZ at hn
  rw [reach_sSides (by omega), (centre_zs a1 b1 i j).1, dotZ_zs, dotZ_za, dotZ_za, dotZ_zm, dotZ_zm] at hn
  have hb := sums_bound hc (csS_distinct h) (csS_distinct h') (fun s => dotZ n (shiftS s i) + dotZ n (shiftS s (i + 1))) (fun s => dotZ n (shiftS s j) + dotZ n (shiftS s (j + 1)))
  have hg : sumI (fun k => ((lk (fun s => dotZ n (shiftS s i) + dotZ n (shiftS s (i + 1))) l k - lk (fun s => dotZ n (shiftS s j) + dotZ n (shiftS s (j + 1))) l' k).natAbs : Int)) (idsS l l') = sumI (fun k => ((dotZ n (sGen l i l' j k)).natAbs : Int)) (idsS l l') :=
    sumI_congr fun k _ => by
      rw [(sGen_zs (csS_okSh h) (csS_okSh h') i j k).1, dotZ_zs, mid_za (csS_okSh h), mid_za (csS_okSh h'), dotZ_za, dotZ_za, dot_wat, dot_wat, dot_wat, dot_wat, lk_add, lk_add]
  rw [hg] at hb
  generalize sumI (fun k => ((dotZ n (sGen l i l' j k)).natAbs : Int)) (idsS l l') = G at *
  generalize sumI (fun s => cf s.1 * (dotZ n (shiftS s i) + dotZ n (shiftS s (i + 1)))) l = A at *
  generalize sumI (fun s => cf s.1 * (dotZ n (shiftS s j) + dotZ n (shiftS s (j + 1)))) l' = B at *
  rw [Int.mul_assoc 2 r] at hn
  rw [Int.mul_assoc 1000000 r]
  omega
theorem touch_apart {p p' : Pth} {l l' : List Src} {i j r : Int} {cf : Int → Int} (hc : ∀ k, -1000 ≤ cf k ∧ cf k ≤ 1000) (h : csS p l = 0) (h' : csS p' l' = 0) (r0 : 0 ≤ r) (r1 : r ≤ 4000)
    (i0 : 0 ≤ i) (i1 : i ≤ p.2.length) (j0 : 0 ≤ j) (j1 : j ≤ p'.2.length) (hs : touchW l (jointsS p) i l' (jointsS p') j r = false) :
    apart (zs (actualS p l (cfL cf l) i).1 (actualS p' l' (cfL cf l') j).1) (1000 * r) := by
  obtain ⟨a1, a2, _⟩ := csS_zero h
  obtain ⟨b1, b2, _⟩ := csS_zero h'
  have c1 := joint_in a1 i.toNat
  have c2 := joint_in b1 j.toNat
  have ec := vsub_zs c1 c2 (by omega)
  unfold touchW at hs
  rw [Bool.not_eq_false', ec] at hs
  have hlen := tSides_len (la := l) (lb := l') (i := i) (j := j) (r := r)
  obtain ⟨n, hn⟩ := empty_normal (inB_mono (inB_zs c1 c2) (by omega)) (tSides_in (csS_okSh h) (csS_okSh h') r0 (by omega)) (by omega) hs
  refine out_of_box (n := n) (by omega) ?_
  rw [dotZ_zs, (actual_dot hc h i0 i1).2.2 n, (actual_dot hc h' j0 j1).2.2 n]
  unfold sepZ at hn
  rw [reach_tSides r0, dotZ_zs] at hn
  have hb := sums_bound hc (csS_distinct h) (csS_distinct h') (fun s => dotZ n (shiftS s i)) (fun s => dotZ n (shiftS s j))
  have hg : sumI (fun k => ((lk (fun s => dotZ n (shiftS s i)) l k - lk (fun s => dotZ n (shiftS s j)) l' k).natAbs : Int)) (idsS l l') = sumI (fun k => ((dotZ n (tGen l i l' j k)).natAbs : Int)) (idsS l l') :=
    sumI_congr fun k _ => by
      rw [(tGen_zs (csS_okSh h) (csS_okSh h') i j k).1, dotZ_zs, dot_wat, dot_wat]
  rw [hg] at hb
  generalize sumI (fun k => ((dotZ n (tGen l i l' j k)).natAbs : Int)) (idsS l l') = G at *
  rw [Int.mul_assoc 1000 r]
  omega

end
end Go.MP
