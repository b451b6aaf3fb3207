/- RigWorst: readiness is that of all safe states. -/
import Derived.Test.YtmolckndbmjgfaaMrS
namespace Go.MR
open Go Go.Sx Go.Proofs
set_option linter.unusedVariables false
set_option linter.unusedSimpArgs false
noncomputable section

/-! ### The numbers of states the other way round -/
def leS : List Int → Int → List Int
  | q :: ps, n => n.tmod q :: leS ps (IntKind.wrap IntKind.i64 (n.tdiv q))
  | [], _ => []
theorem leS_nil (n : Int) : leS [] n = [] := rfl
theorem leS_step {ps : List Int} {i n : Int} (h0 : 0 ≤ i) (h : i < ps.length) : leS (ps.drop i.toNat) n = n.tmod (ps.getD i.toNat 0) :: leS (ps.drop (i + 1).toNat) (IntKind.wrap IntKind.i64 (n.tdiv (ps.getD i.toNat 0))) := by
  rw [drop_step (0 : Int) h0 h, leS]
def leN : List Int → List Int → Int
  | q :: ps, p :: s => p + q * leN ps s
  | _, _ => 0
theorem leS_ok : ∀ {ps : List Int} {n : Int}, ps.any badP = false → 0 ≤ n → n < prodL ps → prodL ps ≤ 4096 → VS ps (leS ps n) ∧ leN ps (leS ps n) = n
  | [], n, _, h0, h1, _ => by
    rw [prodL] at h1
    exact ⟨⟨rfl, rfl⟩, by show (0 : Int) = n; omega⟩
  | q :: ps, n, hb, h0, h1, h2 => by
    have hq := place_ne (i := 0) hb (by simp)
    rw [show (q :: ps).getD 0 0 = q from rfl] at hq
    rw [List.any_cons, Bool.or_eq_false_iff] at hb
    have hp := prodL_rng hb.2
    rw [prodL] at h1 h2
    have hle : q * 1 ≤ q * prodL ps := Int.mul_le_mul_of_nonneg_left hp.1 (by omega)
    have hle2 : 1 * prodL ps ≤ q * prodL ps := Int.mul_le_mul_of_nonneg_right (by omega) (by omega)
    have d0 : 0 ≤ n.tdiv q := Int.tdiv_nonneg h0 (by omega)
    have hm0 : 0 ≤ n.tmod q := Int.tmod_nonneg _ h0
    have hm1 : n.tmod q < q := Int.tmod_lt_of_pos _ (by omega)
    have hdm := Int.mul_tdiv_add_tmod n q
    have d1 : n.tdiv q < prodL ps := by
      apply Int.lt_of_mul_lt_mul_left (a := q)
      · omega
      · omega
    rw [leS, W_id (n := n.tdiv q) (by omega) (by omega)]
    obtain ⟨⟨e1, e2⟩, e3⟩ := leS_ok hb.2 d0 d1 (by omega)
    refine ⟨⟨by simp [e1], ?_⟩, ?_⟩
    · rw [inR, e2, decide_eq_true hm0, decide_eq_true hm1]; rfl
    · rw [leN, e3]; omega
theorem leN_ok : ∀ {ps s : List Int}, ps.any badP = false → s.length = ps.length → inR s ps = true → prodL ps ≤ 4096 → 0 ≤ leN ps s ∧ leN ps s < prodL ps ∧ leS ps (leN ps s) = s
  | [], [], _, _, _, _ => ⟨by decide, by decide, rfl⟩
  | [], _ :: _, _, h, _, _ => by simp at h
  | _ :: _, [], _, h, _, _ => by simp at h
  | q :: ps, p :: s, hb, hl, hi, h2 => by
    have hq := place_ne (i := 0) hb (by simp)
    rw [show (q :: ps).getD 0 0 = q from rfl] at hq
    rw [List.any_cons, Bool.or_eq_false_iff] at hb
    rw [inR, Bool.and_eq_true, Bool.and_eq_true, decide_eq_true_eq, decide_eq_true_eq] at hi
    obtain ⟨⟨hp0, hp1⟩, hi⟩ := hi
    have hp := prodL_rng hb.2
    rw [prodL] at h2 ⊢
    have hle2 : 1 * prodL ps ≤ q * prodL ps := Int.mul_le_mul_of_nonneg_right (by omega) (by omega)
    obtain ⟨e1, e2, e3⟩ := leN_ok hb.2 (by simpa using hl) hi (by omega)
    have m0 : 0 ≤ q * leN ps s := Int.mul_nonneg (by omega) e1
    have m1 : q * (leN ps s + 1) ≤ q * prodL ps := Int.mul_le_mul_of_nonneg_left (by omega) (by omega)
    rw [Int.mul_add] at m1
    rw [leN]
    refine ⟨by omega, by omega, ?_⟩
    have d : (p + q * leN ps s).tdiv q = leN ps s ∧ (p + q * leN ps s).tmod q = p := by
      rw [Int.tdiv_eq_ediv_of_nonneg (by omega), Int.tmod_eq_emod_of_nonneg (by omega)]
      rw [Int.add_mul_ediv_left _ _ (by omega), Int.add_mul_emod_self_left, Int.ediv_eq_zero_of_lt hp0 hp1, Int.emod_eq_of_lt hp0 hp1]
      omega
    rw [leS, d.1, d.2, W_id (n := leN ps s) (by omega) (by omega), e3]
/-! ### All states, in two orders -/
def statesB (ps : List Int) : List (List Int) := (List.range (prodL ps).toNat).map fun n : Nat => stS ps n
def statesL (ps : List Int) : List (List Int) := (List.range (prodL ps).toNat).map fun n : Nat => leS ps n
theorem nodup_map {α β : Type} {f : α → β} {l : List α} (h : l.Nodup) (hf : ∀ x ∈ l, ∀ y ∈ l, f x = f y → x = y) : (l.map f).Nodup := by
  induction l with
  | nil => simp
  | cons x l ih =>
    rw [List.nodup_cons] at h
    rw [List.map_cons, List.nodup_cons]
    refine ⟨fun hm => ?_, ih h.2 (fun a ha b hb => hf a (List.mem_cons_of_mem _ ha) b (List.mem_cons_of_mem _ hb))⟩
    obtain ⟨y, hy, e⟩ := List.mem_map.1 hm
    have := hf y (List.mem_cons_of_mem _ hy) x (by simp) e
    rw [this] at hy
    exact h.1 hy
theorem states_perm {ps : List Int} {bs : List Ban} (h : RgOk ps bs) : (statesB ps).Perm (statesL ps) := by
  have hp := h.pr
  unfold statesB statesL
  rw [List.perm_ext_iff_of_nodup]
  · intro s
    rw [List.mem_map, List.mem_map]
    constructor
    · rintro ⟨n, hn, rfl⟩
      rw [List.mem_range] at hn
      obtain ⟨v, _⟩ := h.st (n := (n : Int)) (by omega) (by omega)
      obtain ⟨a, b, c⟩ := leN_ok h.pb v.sl v.si hp.2
      exact ⟨(leN ps (stS ps n)).toNat, by rw [List.mem_range]; omega, by rw [show (((leN ps (stS ps n)).toNat : Nat) : Int) = leN ps (stS ps n) by omega, c]⟩
    · rintro ⟨n, hn, rfl⟩
      rw [List.mem_range] at hn
      obtain ⟨v, _⟩ := leS_ok h.pb (n := (n : Int)) (by omega) (by omega) hp.2
      obtain ⟨a, b, c⟩ := h.num v
      exact ⟨(numW ps (leS ps n) 0).toNat, by rw [List.mem_range]; omega, by rw [show (((numW ps (leS ps n) 0).toNat : Nat) : Int) = numW ps (leS ps n) 0 by omega, a]⟩
  · refine nodup_map List.nodup_range fun x hx y hy e => ?_
    rw [List.mem_range] at hx hy
    have e1 := (h.st (n := (x : Int)) (by omega) (by omega)).2
    have e2 := (h.st (n := (y : Int)) (by omega) (by omega)).2
    rw [e] at e1
    omega
  · refine nodup_map List.nodup_range fun x hx y hy e => ?_
    rw [List.mem_range] at hx hy
    have e1 := (leS_ok h.pb (n := (x : Int)) (by omega) (by omega) hp.2).2
    have e2 := (leS_ok h.pb (n := (y : Int)) (by omega) (by omega) hp.2).2
    rw [e] at e1
    omega
theorem perm_foldl {α β : Type} {f : β → α → β} (hf : ∀ x a b, f (f x a) b = f (f x b) a) {l m : List α} (h : l.Perm m) : ∀ x, l.foldl f x = m.foldl f x := by
  induction h with
  | nil => intro x; rfl
  | cons a _ ih => intro x; rw [List.foldl_cons, List.foldl_cons, ih]
  | swap a b l => intro x; rw [List.foldl_cons, List.foldl_cons, List.foldl_cons, List.foldl_cons, hf]
  | trans _ _ ih1 ih2 => intro x; rw [ih1, ih2]
/-- One state more. -/
def accW (r : Rig) (g : List (Int × Int)) (l : Nat) (x : Int × Int) (s : List Int) : Int × Int :=
  if safeS r.1 r.2 s = false then x else if IntKind.wrap IntKind.i64 (tickD r.1 r.2 g l s) < 0 then (x.1, IntKind.wrap IntKind.i64 (x.2 + 1)) else (maxI x.1 (IntKind.wrap IntKind.i64 (tickD r.1 r.2 g l s)), x.2)
theorem maxI_comm (a b c : Int) : maxI (maxI a b) c = maxI (maxI a c) b := by
  unfold maxI
  repeat' split
  all_goals omega
theorem accW_comm (r : Rig) (g : List (Int × Int)) (l : Nat) (x : Int × Int) (a b : List Int) : accW r g l (accW r g l x a) b = accW r g l (accW r g l x b) a := by
  unfold accW
  generalize safeS r.1 r.2 a = u
  generalize safeS r.1 r.2 b = v
  generalize IntKind.wrap IntKind.i64 (tickD r.1 r.2 g l a) = p
  generalize IntKind.wrap IntKind.i64 (tickD r.1 r.2 g l b) = q
  by_cases h3 : p < 0 <;> by_cases h4 : q < 0 <;> cases u <;> cases v <;> simp [h3, h4, maxI_comm]
theorem tickD_rng (ps : List Int) (bs : List Ban) (g : List (Int × Int)) (l : Nat) (s : List Int) : -1 ≤ tickD ps bs g l s ∧ tickD ps bs g l s < 65 := by
  have := lst_lt (fun d => reD ps bs g d l s) 65
  unfold tickD
  omega
theorem range_cons (f : Nat → List Int) (n k : Nat) : (List.range' n (k + 1)).map f = f n :: (List.range' (n + 1) k).map f := by
  rw [List.range'_succ, List.map_cons]
theorem rdyR_fold {ps : List Int} {bs : List Ban} (h : RgOk ps bs) (g : List (Int × Int)) {losses : Nat} (hlo : losses ≤ 2) : ∀ (k n : Nat) (x : Int × Int), ((n + k : Nat) : Int) ≤ prodL ps →
    rdyR (cntSf ps bs g) (cntTk ps bs g (losses : Int)) (losses : Int) k (n : Int) x = ((List.range' n k).map fun n : Nat => stS ps n).foldl (accW (ps, bs) g losses) x
  | 0, n, x, _ => rfl
  | k + 1, n, x, hn => by
    obtain ⟨v, e⟩ := h.st (n := (n : Int)) (by omega) (by omega)
    have e1 := (init0_get h g (l := losses) hlo v).2
    have e2 := (cntTk_inv h g hlo).2 losses _ (Nat.le_refl _) v
    unfold tkL at e2
    rw [e] at e1 e2
    rw [rdyR, e1, Int.toNat_natCast losses, e2, range_cons, List.foldl_cons, ← rdyR_fold h g hlo k (n + 1) _ (by omega)]
    rfl
/-- The law's sum. -/
def wR (r : Rig) (g : List (Int × Int)) (l : Int) : Nat → Int → Int × Int → Int × Int
  | 0, _, x => x
  | k + 1, n, x => wR r g l k (n + 1) (if (ticksS r (leS r.1 n) g l).2 = 0 then (maxI x.1 (ticksS r (leS r.1 n) g l).1, x.2) else if (ticksS r (leS r.1 n) g l).2 = 13 then (x.1, IntKind.wrap IntKind.i64 (x.2 + 1)) else x)
theorem state_of {r : Rig} (hc : checkS r = 0) {s : List Int} (hs : VS r.1 s) : stateS r s = if safeS r.1 r.2 s = true then 0 else 12 := by
  unfold stateS safeS
  rw [hc, if_neg (by simp), if_neg (by rw [hs.sl]; simp), if_neg (by rw [hs.si]; simp)]
  by_cases c : ixS (banS (stillS s)) r.2 < 0
  · rw [decide_eq_true c, if_neg (by omega), if_pos rfl]
  · rw [decide_eq_false c, if_pos (by omega), if_neg (by simp)]
theorem ticksS_of {r : Rig} (hc : checkS r = 0) {g : List (Int × Int)} (hg : goalS r g = 0) {losses : Nat} (hlo : losses ≤ 2) {s : List Int} (hs : VS r.1 s) :
    ticksS r s g losses = if safeS r.1 r.2 s = true then (if tickD r.1 r.2 g losses s < 0 then (0, 13) else (tickD r.1 r.2 g losses s, 0)) else (0, 12) := by
  have hw : wi (losses : Int) 0 2 = true := by unfold wi; rw [decide_eq_true (by omega), decide_eq_true (by omega)]; rfl
  have h1 := state_of hc hs
  have ha : askedS r s g losses = stateS r s := by
    unfold askedS
    by_cases e : stateS r s = 0
    · rw [e, hg, hw]; rfl
    · rw [if_pos e]
  have ht := tickD_rng r.1 r.2 g losses s
  unfold ticksS
  rw [ha, h1]
  by_cases c : safeS r.1 r.2 s = true
  · rw [if_pos c, if_pos c, if_neg (by simp)]
    have : askedS r s g losses = 0 := by rw [ha, h1, if_pos c]
    rw [tickN_eq this, Int.toNat_natCast]
    split
    · rfl
    · rw [W_id (by omega) (by omega)]
  · rw [if_neg c, if_neg c, if_pos (by simp)]
theorem wR_fold {r : Rig} (h : RgOk r.1 r.2) (hc : checkS r = 0) {g : List (Int × Int)} (hg : goalS r g = 0) {losses : Nat} (hlo : losses ≤ 2) : ∀ (k n : Nat) (x : Int × Int), ((n + k : Nat) : Int) ≤ prodL r.1 →
    wR r g (losses : Int) k (n : Int) x = ((List.range' n k).map fun n : Nat => leS r.1 n).foldl (accW r g losses) x
  | 0, n, x, _ => rfl
  | k + 1, n, x, hn => by
    obtain ⟨v, _⟩ := leS_ok h.pb (n := (n : Int)) (by omega) (by omega) h.pr.2
    have ht := tickD_rng r.1 r.2 g losses (leS r.1 n)
    have e : (if (ticksS r (leS r.1 n) g losses).2 = 0 then (maxI x.1 (ticksS r (leS r.1 n) g losses).1, x.2) else if (ticksS r (leS r.1 n) g losses).2 = 13 then (x.1, IntKind.wrap IntKind.i64 (x.2 + 1)) else x) = accW r g losses x (leS r.1 n) := by
      have hT := ticksS_of hc hg hlo v
      unfold accW
      rw [W_id (n := tickD r.1 r.2 g losses (leS r.1 n)) (by omega) (by omega)]
      generalize tickD r.1 r.2 g losses (leS r.1 n) = t at *
      generalize ticksS r (leS r.1 n) g losses = T at *
      cases c : safeS r.1 r.2 (leS r.1 n) with
      | true =>
        rw [c, if_pos rfl] at hT
        by_cases d : t < 0
        · rw [if_pos d] at hT
          subst hT
          simp [d]
        · rw [if_neg d] at hT
          subst hT
          simp [d]
      | false =>
        rw [c, if_neg (by simp)] at hT
        subst hT
        simp
    rw [wR, e, range_cons, List.foldl_cons, ← wR_fold h hc hg hlo k (n + 1) _ (by omega)]
    rfl
theorem worst_same {r : Rig} (h : RgOk r.1 r.2) (hc : checkS r = 0) {g : List (Int × Int)} (hg : goalS r g = 0) {losses : Nat} (hlo : losses ≤ 2) :
    wR r g (losses : Int) (manyW r.1 1).toNat 0 (0, 0) = rdyR (cntSf r.1 r.2 g) (cntTk r.1 r.2 g (losses : Int)) (losses : Int) (manyW r.1 1).toNat 0 (0, 0) := by
  have hp := h.pr
  have hm := h.many
  have e1 := wR_fold h hc hg hlo (manyW r.1 1).toNat 0 (0, 0) (by omega)
  have e2 := rdyR_fold h g hlo (manyW r.1 1).toNat 0 (0, 0) (by omega)
  rw [hm] at e1 e2 ⊢
  rw [← List.range_eq_range'] at e1 e2
  refine e1.trans (.trans ?_ e2.symm)
  exact (perm_foldl (accW_comm r g losses) (states_perm h) (0, 0)).symm
theorem accW_key {r : Rig} {g : List (Int × Int)} {l : Nat} {x : Int × Int} {s : List Int} (h1 : 0 ≤ x.1) (h2 : 0 ≤ x.2) (h3 : x.2 ≤ 100000) : 0 ≤ (accW r g l x s).1 ∧ 0 ≤ (accW r g l x s).2 ∧ (accW r g l x s).2 ≤ x.2 + 1 := by
  unfold accW
  split
  · exact ⟨h1, h2, by omega⟩
  · split
    · dsimp only
      rw [W_id (by omega) (by omega)]
      exact ⟨h1, by omega, by omega⟩
    · rename_i h
      refine ⟨?_, h2, by show x.2 ≤ _; omega⟩
      dsimp only
      unfold maxI
      split
      · omega
      · exact h1
theorem accW_ge {r : Rig} {g : List (Int × Int)} {l : Nat} : ∀ (ss : List (List Int)) (x : Int × Int), 0 ≤ x.1 → 0 ≤ x.2 → x.2 + ss.length ≤ 100000 → 0 ≤ (ss.foldl (accW r g l) x).1 ∧ 0 ≤ (ss.foldl (accW r g l) x).2
  | [], x, h1, h2, _ => ⟨h1, h2⟩
  | s :: ss, x, h1, h2, h3 => by
    rw [List.length_cons] at h3
    obtain ⟨k1, k2, k3⟩ := accW_key (r := r) (g := g) (l := l) (s := s) h1 h2 (by omega)
    rw [List.foldl_cons]
    exact accW_ge ss _ k1 k2 (by omega)

def L_wst0 : Lay := { slots := [(1, .val tI), (6, .ptr 7124 0), (7, .val (.sl tPart)), (8, .val tI), (9, .val tI), (11, .val tI), (12, .val tI)], boxes := [(7124, [.val tIs, .val (.sl (.pair tI (.pair tI (.pair tI tV))))])] }
def L_wst0_0 : Lay := { slots := [(1, .val tI), (6, .ptr 7124 0), (7, .val (.sl tPart)), (8, .val tI), (9, .val tI), (11, .val tI)], boxes := [(7124, [.val tIs, .val (.sl (.pair tI (.pair tI (.pair tI tV))))])] }
def X_wst0 : Exit → St → Option Lay
  | .exit 0, _ => some L_wst0_0
  | _, _ => none
abbrev C_wst0 : Code := loopC (bodyOf Try.f8) 0
theorem B_wst0 (lo : Int) (g : List (Int × Int)) (w z n i : Int) (ps : List Int) (bs : List (Int × (Int × (Int × V)))) : loopBodyA (P := P) [] (lpOf []) [] 124 noU (inner C_wst0) L_wst0 X_wst0 (α := Int × Unit × List (Int × Int) × Int × Int × Int × Int × List Int × List (Int × (Int × (Int × V))) × Unit) (fun x => x) (fun x => x) (lo, (), g, w, z, n, i, ps, bs, ()) =
  Tree.cond (decide (i < (↑(List.length ps) : Int))) (Tree.need ((0 : Int) ≤ i ∧ i < (↑(List.length ps) : Int)) (Tree.leaf (Sum.inl (lo, PUnit.unit, g, w, z, IntKind.wrap IntKind.i64 (n * List.getD ps (Int.toNat i) (0 : Int)), IntKind.wrap IntKind.i64 (i + (1 : Int)), ps, bs, PUnit.unit)))) (Tree.leaf (Sum.inr (Exit.exit (0 : Nat), Lay.st L_wst0_0 noU (lo, PUnit.unit, g, w, z, n, ps, bs, PUnit.unit)))) := by kernel_rfl

def inv_wst0 : Int × Unit × List (Int × Int) × Int × Int × Int × Int × List Int × List (Int × (Int × (Int × V))) × Unit → Prop := fun (lo, (), g, w, z, n, i, ps, bs, ()) => 0 ≤ i ∧ i ≤ ps.length ∧ ps.length ≤ 3
def O_wst0 : Int × Unit × List (Int × Int) × Int × Int × Int × Int × List Int × List (Int × (Int × (Int × V))) × Unit → Tree (Exit × St) := fun (lo, (), g, w, z, n, i, ps, bs, ()) => (.leaf (.exit 0, L_wst0_0.st noU (lo, (), g, w, z, (manyW (ps.drop i.toNat) n), ps, bs, ())))
def R_wst0 : LRun := runOf 124 L_wst0 (fun x => x) (inv_wst0) (O_wst0)
theorem K_wst0 : LoopOk P [] 124 none noU C_wst0 (R_wst0) := by
  refine loop_of hm (cx := []) [] (xl := X_wst0) (α := Int × Unit × List (Int × Int) × Int × Int × Int × Int × List Int × List (Int × (Int × (Int × V))) × Unit) (fun x => x) (fun (lo, (), g, w, z, n, i, ps, bs, ()) => ((ps.length : Int) - i).toNat) (fun _ => rfl) (by kernel_rfl) (by kernel_rfl) ?_ (by kernel_rfl) trivial ?_
  · intro e S L' h
    unfold X_wst0 at h
    split at h <;> first | (cases h; done) | (cases h; kernel_rfl) | (rcases bif_some h with h | h <;> cases h <;> kernel_rfl)
  · rintro ⟨lo, ⟨⟩, g, w, z, n, i, ps, bs, ⟨⟩⟩ hinv Q hQ
    refine hold_of_eq (B_wst0 lo g w z n i ps bs) ?_

    obtain ⟨h0, h1, h2⟩ := hinv
    rw [W_id (n := i + 1) (by omega) (by omega)]
    have hQ' : Q (.exit 0, L_wst0_0.st noU (lo, (), g, w, z, manyW (ps.drop i.toNat) n, ps, bs, ())) := hQ
    refine ⟨fun c1 => ?_, fun c1 => ?_⟩
    · have d1 : i < ps.length := of_decide_eq_true c1
      have hm : ((ps.length : Int) - (i + 1)).toNat < ((ps.length : Int) - i).toNat := by omega
      rw [manyW_step h0 d1] at hQ'
      exact ⟨⟨h0, d1⟩, ⟨⟨by omega, by omega, h2⟩, hm⟩, hQ'⟩
    · have d1 : ¬ i < ps.length := of_decide_eq_false c1
      rw [drop_end d1, manyW_nil] at hQ'
      exact hQ'
def L_wst4 : Lay := { slots := [(1, .val tI), (6, .ptr 7124 0), (7, .val (.sl tPart)), (8, .val tI), (9, .val tI), (11, .val tI), (13, .val tI), (14, .val tI), (15, .val tI), (16, .val tI), (17, .row 3 tI), (18, .val tI)], boxes := [(7124, [.val tIs, .val (.sl (.pair tI (.pair tI (.pair tI tV))))])] }
def L_wst4_0 : Lay := { slots := [(1, .val tI), (6, .ptr 7124 0), (7, .val (.sl tPart)), (8, .val tI), (9, .val tI), (11, .val tI), (13, .val tI), (14, .val tI), (15, .val tI), (17, .row 3 tI)], boxes := [(7124, [.val tIs, .val (.sl (.pair tI (.pair tI (.pair tI tV))))])] }
def X_wst4 : Exit → St → Option Lay
  | .exit 4, _ => some L_wst4_0
  | _, _ => none
abbrev C_wst4 : Code := loopC (inner (loopC (bodyOf Try.f8) 2)) 4
theorem B_wst4 (lo : Int) (g : List (Int × Int)) (w z n m y i left : Int) (s : List Int) (k : Int) (ps : List Int) (bs : List (Int × (Int × (Int × V)))) : loopBodyA (P := P) [] (lpOf []) [] 124 noU (inner C_wst4) L_wst4 X_wst4 (α := Int × Unit × List (Int × Int) × Int × Int × Int × Int × Int × Int × Int × List Int × Int × List Int × List (Int × (Int × (Int × V))) × Unit) (fun x => x) (fun x => x) (lo, (), g, w, z, n, m, y, i, left, s, k, ps, bs, ()) =
  Tree.cond (decide (k < (↑(List.length ps) : Int))) (Tree.need ((0 : Int) ≤ k ∧ k < (↑(List.length ps) : Int)) (Tree.need (List.getD ps (Int.toNat k) (0 : Int) ≠ (0 : Int)) (Tree.need ((List.length s + List.length [Int.tmod left (List.getD ps (Int.toNat k) (0 : Int))]) * (8 : Nat) ≤ (140737488355328 : Nat)) (Tree.need ((0 : Int) ≤ k ∧ k < (↑(List.length ps) : Int)) (Tree.need (List.getD ps (Int.toNat k) (0 : Int) ≠ (0 : Int)) (Tree.leaf (Sum.inl (lo, PUnit.unit, g, w, z, n, m, y, i, IntKind.wrap IntKind.i64 (Int.tdiv left (List.getD ps (Int.toNat k) (0 : Int))), s ++ [Int.tmod left (List.getD ps (Int.toNat k) (0 : Int))], IntKind.wrap IntKind.i64 (k + (1 : Int)), ps, bs, PUnit.unit)))))))) (Tree.leaf (Sum.inr (Exit.exit (4 : Nat), Lay.st L_wst4_0 noU (lo, PUnit.unit, g, w, z, n, m, y, i, s, ps, bs, PUnit.unit)))) := by kernel_rfl

def inv_wst4 : Int × Unit × List (Int × Int) × Int × Int × Int × Int × Int × Int × Int × List Int × Int × List Int × List (Int × (Int × (Int × V))) × Unit → Prop := fun (lo, (), g, w, z, n, m, y, i, left, s, k, ps, bs, ()) => 0 ≤ k ∧ k ≤ ps.length ∧ ps.length ≤ 3 ∧ smallP ps ∧ (s.length : Int) ≤ k
def O_wst4 : Int × Unit × List (Int × Int) × Int × Int × Int × Int × Int × Int × Int × List Int × Int × List Int × List (Int × (Int × (Int × V))) × Unit → Tree (Exit × St) := fun (lo, (), g, w, z, n, m, y, i, left, s, k, ps, bs, ()) => (.leaf (.exit 4, L_wst4_0.st noU (lo, (), g, w, z, n, m, y, i, (s ++ leS (ps.drop k.toNat) left), ps, bs, ())))
def R_wst4 : LRun := runOf 124 L_wst4 (fun x => x) (inv_wst4) (O_wst4)
theorem K_wst4 : LoopOk P [] 124 none noU C_wst4 (R_wst4) := by
  refine loop_of hm (cx := []) [] (xl := X_wst4) (α := Int × Unit × List (Int × Int) × Int × Int × Int × Int × Int × Int × Int × List Int × Int × List Int × List (Int × (Int × (Int × V))) × Unit) (fun x => x) (fun (lo, (), g, w, z, n, m, y, i, left, s, k, ps, bs, ()) => ((ps.length : Int) - k).toNat) (fun _ => rfl) (by kernel_rfl) (by kernel_rfl) ?_ (by kernel_rfl) trivial ?_
  · intro e S L' h
    unfold X_wst4 at h
    split at h <;> first | (cases h; done) | (cases h; kernel_rfl) | (rcases bif_some h with h | h <;> cases h <;> kernel_rfl)
  · rintro ⟨lo, ⟨⟩, g, w, z, n, m, y, i, left, s, k, ps, bs, ⟨⟩⟩ hinv Q hQ
    refine hold_of_eq (B_wst4 lo g w z n m y i left s k ps bs) ?_

    obtain ⟨h0, h1, h2, h3, h4⟩ := hinv
    rw [W_id (n := k + 1) (by omega) (by omega)]
    have hQ' : Q (.exit 4, L_wst4_0.st noU (lo, (), g, w, z, n, m, y, i, s ++ leS (ps.drop k.toNat) left, ps, bs, ())) := hQ
    refine ⟨fun c1 => ?_, fun c1 => ?_⟩
    · have d1 : k < ps.length := of_decide_eq_true c1
      have hm : ((ps.length : Int) - (k + 1)).toNat < ((ps.length : Int) - k).toNat := by omega
      have hq := smallP_get h3 (i := k.toNat) (by omega)
      have hq0 : ps.getD k.toNat 0 ≠ 0 := by omega
      rw [leS_step h0 d1, List.append_cons] at hQ'
      refine ⟨⟨h0, d1⟩, hq0, ?_, ⟨h0, d1⟩, hq0, ⟨⟨by omega, by omega, h2, h3, ?_⟩, hm⟩, hQ'⟩
      · show (s.length + 1) * 8 ≤ 140737488355328; omega
      · rw [List.length_append]; show ((s.length + 1 : Nat) : Int) ≤ k + 1; omega
    · have d1 : ¬ k < ps.length := of_decide_eq_false c1
      rw [drop_end d1, leS_nil, List.append_nil] at hQ'
      exact hQ'
def L_wst2 : Lay := { slots := [(1, .val tI), (6, .ptr 7124 0), (7, .val (.sl tPart)), (8, .val tI), (9, .val tI), (11, .val tI), (13, .val tI), (14, .val tI), (15, .val tI)], boxes := [(7124, [.val tIs, .val (.sl (.pair tI (.pair tI (.pair tI tV))))])] }
def L_wst2_0 : Lay := { slots := [(8, .val tI), (9, .val tI), (13, .val tI), (14, .val tI)] }
def X_wst2 : Exit → St → Option Lay
  | .exit 2, _ => some L_wst2_0
  | _, _ => none
abbrev C_wst2 : Code := loopC (bodyOf Try.f8) 2
theorem B_wst2 (lo : Int) (g : List (Int × Int)) (w z n m y i : Int) (ps : List Int) (bs : List (Int × (Int × (Int × V)))) : loopBodyA (P := P) [c_Ticks.gc] (lpOf [(4, R_wst4)]) [] 124 noU (inner C_wst2) L_wst2 X_wst2 (α := Int × Unit × List (Int × Int) × Int × Int × Int × Int × Int × Int × List Int × List (Int × (Int × (Int × V))) × Unit) (fun x => x) (fun x => x) (lo, (), g, w, z, n, m, y, i, ps, bs, ()) =
  Tree.cond (decide (i < n)) (Tree.need (inv_wst4 (lo, (), g, w, z, n, m, y, i, i, [], (0 : Int), ps, bs, ())) (Tree.cond ((ticksS (ps, bs) (leS (List.drop (Int.toNat (0 : Int)) ps) i) g lo).snd == (0 : Int)) (Tree.leaf (Sum.inl (lo, PUnit.unit, g, w, z, n, maxI m (ticksS (ps, bs) (leS (List.drop (Int.toNat (0 : Int)) ps) i) g lo).fst, y, IntKind.wrap IntKind.i64 (i + (1 : Int)), ps, bs, PUnit.unit))) (Tree.cond ((ticksS (ps, bs) (leS (List.drop (Int.toNat (0 : Int)) ps) i) g lo).snd == (13 : Int)) (Tree.leaf (Sum.inl (lo, PUnit.unit, g, w, z, n, m, IntKind.wrap IntKind.i64 (y + (1 : Int)), IntKind.wrap IntKind.i64 (i + (1 : Int)), ps, bs, PUnit.unit))) (Tree.leaf (Sum.inl (lo, PUnit.unit, g, w, z, n, m, y, IntKind.wrap IntKind.i64 (i + (1 : Int)), ps, bs, PUnit.unit)))))) (Tree.leaf (Sum.inr (Exit.exit (2 : Nat), Lay.st L_wst2_0 noU (w, z, m, y, PUnit.unit)))) := by kernel_rfl

def inv_wst2 : Int × Unit × List (Int × Int) × Int × Int × Int × Int × Int × Int × List Int × List (Int × (Int × (Int × V))) × Unit → Prop := fun (lo, (), g, w, z, n, m, y, i, ps, bs, ()) => 0 ≤ i ∧ i ≤ n ∧ n ≤ 18 ∧ KRig (ps, bs)
def O_wst2 : Int × Unit × List (Int × Int) × Int × Int × Int × Int × Int × Int × List Int × List (Int × (Int × (Int × V))) × Unit → Tree (Exit × St) := fun (lo, (), g, w, z, n, m, y, i, ps, bs, ()) => (.leaf (.exit 2, L_wst2_0.st noU ((w), (z), ((wR (ps, bs) g lo (n - i).toNat i (m, y)).1), ((wR (ps, bs) g lo (n - i).toNat i (m, y)).2), ())))
def R_wst2 : LRun := runOf 124 L_wst2 (fun x => x) (inv_wst2) (O_wst2)
theorem K_wst2 : LoopOk P [] 124 none noU C_wst2 (R_wst2) := by
  refine loop_of hm (cx := [c_Ticks.gc]) [(4, R_wst4)] (xl := X_wst2) (α := Int × Unit × List (Int × Int) × Int × Int × Int × Int × Int × Int × List Int × List (Int × (Int × (Int × V))) × Unit) (fun x => x) (fun (lo, (), g, w, z, n, m, y, i, ps, bs, ()) => (n - i).toNat) (fun _ => rfl) (by kernel_rfl) (by kernel_rfl) ?_ (by kernel_rfl) ⟨K_wst4, trivial⟩ ?_
  · intro e S L' h
    unfold X_wst2 at h
    split at h <;> first | (cases h; done) | (cases h; kernel_rfl) | (rcases bif_some h with h | h <;> cases h <;> kernel_rfl)
  · rintro ⟨lo, ⟨⟩, g, w, z, n, m, y, i, ps, bs, ⟨⟩⟩ hinv Q hQ
    refine hold_of_eq (B_wst2 lo g w z n m y i ps bs) ?_

    obtain ⟨h0, h1, h2, hk⟩ := hinv
    have l3 := hk.l3
    have sm := hk.sm
    dsimp only at l3 sm
    rw [W_id (n := i + 1) (by omega) (by omega)]
    simp only [Int.toNat_zero, List.drop_zero, List.nil_append]
    have hQ' : Q (.exit 2, L_wst2_0.st noU (w, z, (wR (ps, bs) g lo (n - i).toNat i (m, y)).1, (wR (ps, bs) g lo (n - i).toNat i (m, y)).2, ())) := hQ
    refine ⟨fun c1 => ?_, fun c1 => ?_⟩
    · have d1 : i < n := of_decide_eq_true c1
      have hm : (n - (i + 1)).toNat < (n - i).toNat := by omega
      rw [show (n - i).toNat = (n - (i + 1)).toNat + 1 by omega, wR] at hQ'
      dsimp only at hQ'
      have inv' : 0 ≤ i + 1 ∧ i + 1 ≤ n ∧ n ≤ 18 ∧ KRig (ps, bs) := ⟨by omega, by omega, h2, hk⟩
      refine ⟨⟨by decide, by omega, l3, sm, by rw [List.length_nil]; omega⟩, fun c2 => ⟨⟨inv', hm⟩, ?_⟩, fun c2 => ⟨fun c3 => ⟨⟨inv', hm⟩, ?_⟩, fun c3 => ⟨⟨inv', hm⟩, ?_⟩⟩⟩
      · rw [if_pos (eq_of_beq c2)] at hQ'
        exact hQ'
      · rw [if_neg (ne_of_beq_false c2), if_pos (eq_of_beq c3)] at hQ'
        exact hQ'
      · rw [if_neg (ne_of_beq_false c2), if_neg (ne_of_beq_false c3)] at hQ'
        exact hQ'
    · have d1 : ¬ i < n := of_decide_eq_false c1
      rw [show (n - i).toNat = 0 by omega] at hQ'
      exact hQ'
theorem T_RigWorst (s0 : List Int) (lo : Int) : fnTree (P := P) [c_NewRing.gc, c_RigOf.gc, c_Goal8.gc, c_Mod.gc, c_Ready.gc, c_awake.gc] (lpOf [(0, R_wst0), (2, R_wst2)]) Try.f8 (encL 0 [.val tIs, .val tI] (s0, lo, ())) =
  Tree.need ((0 : Int) ≤ (0 : Int) ∧ (0 : Int) ≤ (500000000 : Int)) (Tree.need (KRig (kRig s0 (0 : Int)) ∧ (0 : Int) ≤ kRigK s0 (0 : Int) ∧ kRigK s0 (0 : Int) ≤ (500000000 : Int)) (Tree.need ((0 : Int) < (2 : Int) ∧ R64 (2 : Int)) (Tree.cond ((readyS (kRig s0 (0 : Int)) (glS s0 (kRig s0 (0 : Int)).fst (kRigK s0 (0 : Int))) (lo % (2 : Int))).snd.snd != (0 : Int)) (Tree.leaf (SV.bool false)) (Tree.need (inv_wst0 (lo % (2 : Int), (), glS s0 (kRig s0 (0 : Int)).fst (kRigK s0 (0 : Int)), (readyS (kRig s0 (0 : Int)) (glS s0 (kRig s0 (0 : Int)).fst (kRigK s0 (0 : Int))) (lo % (2 : Int))).fst, (readyS (kRig s0 (0 : Int)) (glS s0 (kRig s0 (0 : Int)).fst (kRigK s0 (0 : Int))) (lo % (2 : Int))).snd.fst, (1 : Int), (0 : Int), (kRig s0 (0 : Int)).fst, (kRig s0 (0 : Int)).snd, ())) (Tree.cond (decide (manyW (List.drop (Int.toNat (0 : Int)) (kRig s0 (0 : Int)).fst) (1 : Int) > (18 : Int))) (Tree.cond (decide ((readyS (kRig s0 (0 : Int)) (glS s0 (kRig s0 (0 : Int)).fst (kRigK s0 (0 : Int))) (lo % (2 : Int))).fst ≥ (0 : Int))) (Tree.cond (decide ((readyS (kRig s0 (0 : Int)) (glS s0 (kRig s0 (0 : Int)).fst (kRigK s0 (0 : Int))) (lo % (2 : Int))).snd.fst ≥ (0 : Int))) (Tree.leaf (SV.bool true)) (Tree.leaf (SV.bool false))) (Tree.leaf (SV.bool false))) (Tree.need (inv_wst2 (lo % (2 : Int), (), glS s0 (kRig s0 (0 : Int)).fst (kRigK s0 (0 : Int)), (readyS (kRig s0 (0 : Int)) (glS s0 (kRig s0 (0 : Int)).fst (kRigK s0 (0 : Int))) (lo % (2 : Int))).fst, (readyS (kRig s0 (0 : Int)) (glS s0 (kRig s0 (0 : Int)).fst (kRigK s0 (0 : Int))) (lo % (2 : Int))).snd.fst, manyW (List.drop (Int.toNat (0 : Int)) (kRig s0 (0 : Int)).fst) (1 : Int), (0 : Int), (0 : Int), (0 : Int), (kRig s0 (0 : Int)).fst, (kRig s0 (0 : Int)).snd, ())) (Tree.cond ((readyS (kRig s0 (0 : Int)) (glS s0 (kRig s0 (0 : Int)).fst (kRigK s0 (0 : Int))) (lo % (2 : Int))).fst == (wR (kRig s0 (0 : Int)) (glS s0 (kRig s0 (0 : Int)).fst (kRigK s0 (0 : Int))) (lo % (2 : Int)) (Int.toNat (manyW (List.drop (Int.toNat (0 : Int)) (kRig s0 (0 : Int)).fst) (1 : Int) - (0 : Int))) (0 : Int) ((0 : Int), (0 : Int))).fst) (Tree.cond ((readyS (kRig s0 (0 : Int)) (glS s0 (kRig s0 (0 : Int)).fst (kRigK s0 (0 : Int))) (lo % (2 : Int))).snd.fst == (wR (kRig s0 (0 : Int)) (glS s0 (kRig s0 (0 : Int)).fst (kRigK s0 (0 : Int))) (lo % (2 : Int)) (Int.toNat (manyW (List.drop (Int.toNat (0 : Int)) (kRig s0 (0 : Int)).fst) (1 : Int) - (0 : Int))) (0 : Int) ((0 : Int), (0 : Int))).snd) (Tree.leaf (SV.bool true)) (Tree.leaf (SV.bool false))) (Tree.leaf (SV.bool false))))))))) := by kernel_rfl

def c_RigWorst : PC P := PC.of (α := List Int × Int × Unit) 8 [.val tIs, .val tI] (fun x => x) (fun x => x) (fun _ => rfl)
  (fun _ => none)
  (fun x => .bool true) (by kernel_rfl) (by
    rintro ⟨s0, lo, ⟨⟩⟩ hp
    refine fn_of hm (by kernel_rfl) (by kernel_rfl) (T_RigWorst s0 lo) ⟨K_wst0, K_wst2, trivial⟩ ?_

    try dsimp only at hp
    try dsimp only
    obtain ⟨hk, hk1, hk2⟩ := kRig_ok (l := s0) (k := 0) (by decide)
    have hg := goal_ok (l := s0) hk (k := kRigK s0 0) hk1
    have hr := hk.rg
    have l3 := hk.l3
    have hl0 := Int.emod_nonneg lo (show (2 : Int) ≠ 0 by decide)
    have hl1 := Int.emod_lt_of_pos lo (show (0 : Int) < 2 by decide)
    have hws := worst_same hr hk.ck hg (losses := (lo % 2).toNat) (by omega)
    rw [show (((lo % 2).toNat : Nat) : Int) = lo % 2 by omega] at hws
    have hw : wi (lo % 2) 0 2 = true := by unfold wi; rw [decide_eq_true (by omega), decide_eq_true (by omega)]; rfl
    have hrs : readyS (kRig s0 0) (glS s0 (kRig s0 0).1 (kRigK s0 0)) (lo % 2) = ((wR (kRig s0 0) (glS s0 (kRig s0 0).1 (kRigK s0 0)) (lo % 2) (manyW (kRig s0 0).1 1).toNat 0 (0, 0)).1, (wR (kRig s0 0) (glS s0 (kRig s0 0).1 (kRigK s0 0)) (lo % 2) (manyW (kRig s0 0).1 1).toNat 0 (0, 0)).2, 0) := by
      unfold readyS
      rw [hg, if_neg (by simp), hw, if_neg (by simp), hws]
    have hge : 0 ≤ (wR (kRig s0 0) (glS s0 (kRig s0 0).1 (kRigK s0 0)) (lo % 2) (manyW (kRig s0 0).1 1).toNat 0 (0, 0)).1 ∧ 0 ≤ (wR (kRig s0 0) (glS s0 (kRig s0 0).1 (kRigK s0 0)) (lo % 2) (manyW (kRig s0 0).1 1).toNat 0 (0, 0)).2 := by
      have hp := hr.pr
      have hm := hr.many
      have e1 := wR_fold hr hk.ck hg (losses := (lo % 2).toNat) (by omega) (manyW (kRig s0 0).1 1).toNat 0 (0, 0) (by omega)
      rw [show (((lo % 2).toNat : Nat) : Int) = lo % 2 by omega] at e1
      have e2 : wR (kRig s0 0) (glS s0 (kRig s0 0).1 (kRigK s0 0)) (lo % 2) (manyW (kRig s0 0).1 1).toNat 0 (0, 0) = _ := e1
      rw [e2]
      exact accW_ge _ _ (by decide) (by decide) (by rw [List.length_map, List.length_range']; show (0 : Int) + _ ≤ _; omega)
    have hmp := hr.many
    have hpr := hr.pr
    generalize kRigK s0 0 = k0 at *
    generalize kRig s0 0 = r at *
    obtain ⟨ps, bs⟩ := r
    dsimp only at *
    rw [hrs]
    simp only [Int.toNat_zero, List.drop_zero, Int.sub_zero]
    generalize hy : wR (ps, bs) (glS s0 ps k0) (lo % 2) (manyW ps 1).toNat 0 (0, 0) = y at *
    refine ⟨⟨by decide, by decide⟩, ⟨hk, hk1, by omega⟩, ⟨by decide, by decide, by decide⟩, fun c1 => (by cases c1), fun c1 => ⟨⟨by decide, by omega, l3⟩, fun c2 => ⟨fun c3 => ⟨fun c4 => rfl, fun c4 => ?_⟩, fun c3 => ?_⟩, fun c2 => ⟨⟨by decide, by omega, ?_, hk⟩, fun c5 => ⟨fun c6 => rfl, fun c6 => ?_⟩, fun c5 => ?_⟩⟩⟩
    · exact absurd hge.2 (of_decide_eq_false c4)
    · exact absurd hge.1 (of_decide_eq_false c3)
    · have := of_decide_eq_false c2; omega
    · exact absurd rfl (ne_of_beq_false c6)
    · exact absurd rfl (ne_of_beq_false c5))

end
end Go.MR
