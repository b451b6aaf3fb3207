/- Rigs: what is made of numbers. -/
import Derived.Test.YtmolckndbmjgfaaMrP
import Derived.Test.YtmolckndbmjgfaaMrQ
namespace Go.MR
open Go Go.Sx Go.Proofs
set_option linter.unusedVariables false
set_option linter.unusedSimpArgs false
noncomputable section
def R64 (n : Int) : Prop := -9223372036854775808 ≤ n ∧ n ≤ 9223372036854775807
theorem tmod_pos {a b : Int} (hb : 0 < b) : Int.tmod a b = a % b ∨ (Int.tmod a b = a % b - b ∧ a < 0) := by
  rw [Int.tmod_eq_emod]
  split
  · left; omega
  · right
    have : (b.natAbs : Int) = b := by omega
    exact ⟨by omega, by omega⟩
theorem T_Mod (a b : Int) : fnTree (P := P) [] (lpOf []) Try.f25 (encL 0 [.val tI, .val tI] (a, b, ())) =
  Tree.need (b ≠ (0 : Int)) (Tree.cond (decide (Int.tmod a b < (0 : Int))) (Tree.leaf (SV.int IntKind.i64 (IntKind.wrap IntKind.i64 (Int.tmod a b + b)))) (Tree.leaf (SV.int IntKind.i64 (Int.tmod a b)))) := by kernel_rfl
def c_Mod : PC P := PC.of (α := Int × Int × Unit) 25 [.val tI, .val tI] (fun x => x) (fun x => x) (fun _ => rfl)
  (fun x => some (0 < x.2.1 ∧ R64 x.2.1))
  (fun x => .int .i64 (x.1 % x.2.1)) (by kernel_rfl) (by
    rintro ⟨a, b, ⟨⟩⟩ hp
    refine fn_of hm (by kernel_rfl) (by kernel_rfl) (T_Mod a b) trivial ?_
    obtain ⟨h0, h1, h2⟩ : 0 < b ∧ R64 b := hp
    have h3 := Int.emod_nonneg a (show b ≠ 0 by omega)
    have h4 := Int.emod_lt_of_pos a h0
    refine ⟨by omega, fun h => ?_, fun h => ?_⟩
    · simp only [decide_eq_true_eq] at h
      show SV.int .i64 _ = SV.int .i64 (a % b)
      rcases tmod_pos (a := a) h0 with e | ⟨e, _⟩
      · omega
      · rw [e, W_id (by omega) (by omega)]; congr 1; omega
    · simp only [decide_eq_false_iff_not] at h
      show SV.int .i64 _ = SV.int .i64 (a % b)
      rcases tmod_pos (a := a) h0 with e | ⟨e, _⟩
      · rw [e]
      · omega)
def rnX (l : List Int) (k : Int) : Int := (k * 7919) % 10007 + (if 0 < (l.length : Int) then (l.getD (k % l.length).toNat 0 % 1048576) / (1 + k / l.length) else 0)
def rnS (l : List Int) (at' n : Int) : Int := rnX l (at' + 1) % n
theorem rnS_rng {l : List Int} {k n : Int} (h : 0 ≤ k) (hn : 0 < n) : 0 ≤ rnS l k n ∧ rnS l k n < n :=
  ⟨Int.emod_nonneg _ (by omega), Int.emod_lt_of_pos _ hn⟩
def L_RNext : Lay := { slots := [(0, .ptr 1 0), (1, .val tI)], boxes := [(1, [.val tIs, .val tI])] }
theorem T_RNext (n : Int) (l : List Int) (k : Int) : mTree (P := P) [c_Mod.gc] (lpOf []) Try.f50 L_RNext true ((), n, l, k, ()) =
  Tree.need ((10007 : Int) ≠ (0 : Int)) (Tree.cond (decide ((↑(List.length l) : Int) > (0 : Int))) (Tree.need ((↑(List.length l) : Int) ≠ (0 : Int)) (Tree.need ((0 : Int) ≤ Int.tmod (IntKind.wrap IntKind.i64 (k + (1 : Int))) (↑(List.length l) : Int) ∧ Int.tmod (IntKind.wrap IntKind.i64 (k + (1 : Int))) (↑(List.length l) : Int) < (↑(List.length l) : Int)) (Tree.need ((0 : Int) < (1048576 : Int) ∧ R64 (1048576 : Int)) (Tree.need ((↑(List.length l) : Int) ≠ (0 : Int)) (Tree.need (IntKind.wrap IntKind.i64 ((1 : Int) + IntKind.wrap IntKind.i64 (Int.tdiv (IntKind.wrap IntKind.i64 (k + (1 : Int))) (↑(List.length l) : Int))) ≠ (0 : Int)) (Tree.need (n ≠ (0 : Int)) (Tree.leaf { res := SV.int IntKind.i64 (Int.tmod (IntKind.wrap IntKind.i64 (Int.tmod (IntKind.wrap IntKind.i64 (IntKind.wrap IntKind.i64 (k + (1 : Int)) * (7919 : Int))) (10007 : Int) + IntKind.wrap IntKind.i64 (Int.tdiv (List.getD l (Int.toNat (Int.tmod (IntKind.wrap IntKind.i64 (k + (1 : Int))) (↑(List.length l) : Int))) (0 : Int) % (1048576 : Int)) (IntKind.wrap IntKind.i64 ((1 : Int) + IntKind.wrap IntKind.i64 (Int.tdiv (IntKind.wrap IntKind.i64 (k + (1 : Int))) (↑(List.length l) : Int))))))) n), boxes := [[SV.sl tI l, SV.int IntKind.i64 (IntKind.wrap IntKind.i64 (k + (1 : Int)))]] }))))))) (Tree.need (n ≠ (0 : Int)) (Tree.leaf { res := SV.int IntKind.i64 (Int.tmod (Int.tmod (IntKind.wrap IntKind.i64 (IntKind.wrap IntKind.i64 (k + (1 : Int)) * (7919 : Int))) (10007 : Int)) n), boxes := [[SV.sl tI l, SV.int IntKind.i64 (IntKind.wrap IntKind.i64 (k + (1 : Int)))]] }))) := by kernel_rfl
def c_RNext : MC P := MC.of (α := Unit × Int × List Int × Int × Unit) 50 L_RNext (fun x => x) (fun x => x) (fun _ => rfl)
  (fun (_, n, l, k, _) => some (0 ≤ k ∧ k < 1099511627776 ∧ 0 < n))
  (fun (_, n, l, k, _) => ⟨.int .i64 (rnS l k n), [[.sl tI l, .int .i64 (k + 1)]], []⟩) (by kernel_rfl) (by kernel_rfl) (by kernel_rfl) (by
    rintro ⟨⟨⟩, n, l, k, ⟨⟩⟩ hp
    refine m_of hm (own := true) (by kernel_rfl) (by kernel_rfl) (by kernel_rfl) (T_RNext n l k) trivial ?_
    obtain ⟨h0, h1, h2⟩ : 0 ≤ k ∧ k < 1099511627776 ∧ 0 < n := hp
    show Tree.holds (fun s => s = (⟨.int .i64 (rnS l k n), [[.sl tI l, .int .i64 (k + 1)]], []⟩ : MOut)) _
    have e0 := Int.tmod_eq_emod_of_nonneg (show 0 ≤ (k + 1) * 7919 by omega) (b := 10007)
    have r1 := Int.emod_nonneg ((k + 1) * 7919) (show (10007 : Int) ≠ 0 by decide)
    have r2 := Int.emod_lt_of_pos ((k + 1) * 7919) (show (0 : Int) < 10007 by decide)
    rw [W_id (n := k + 1) (by omega) (by omega), W_id (n := (k + 1) * 7919) (by omega) (by omega), e0]
    refine ⟨by decide, fun hl => ?_, fun hl => ?_⟩
    · simp only [gt_iff_lt, decide_eq_true_eq] at hl
      have e1 := Int.tmod_eq_emod_of_nonneg (show 0 ≤ k + 1 by omega) (b := (l.length : Int))
      have e2 := Int.tdiv_eq_ediv_of_nonneg (show 0 ≤ k + 1 by omega) (b := (l.length : Int))
      have q1 : 0 ≤ (k + 1) / (l.length : Int) := Int.ediv_nonneg (by omega) (by omega)
      have q2 := Int.ediv_le_self (l.length : Int) (show 0 ≤ k + 1 by omega)
      have m1 := Int.emod_nonneg (k + 1) (show (l.length : Int) ≠ 0 by omega)
      have m2 := Int.emod_lt_of_pos (k + 1) hl
      rw [e1, e2]
      generalize hg : l.getD ((k + 1) % (l.length : Int)).toNat 0 = g at *
      have x1 := Int.emod_nonneg g (show (1048576 : Int) ≠ 0 by decide)
      have x2 := Int.emod_lt_of_pos g (show (0 : Int) < 1048576 by decide)
      have e3 := Int.tdiv_eq_ediv_of_nonneg x1 (b := 1 + (k + 1) / (l.length : Int))
      have y1 := Int.ediv_nonneg x1 (show 0 ≤ 1 + (k + 1) / (l.length : Int) by omega)
      have y2 := Int.ediv_le_self (1 + (k + 1) / (l.length : Int)) x1
      rw [W_id (n := (k + 1) / (l.length : Int)) (by omega) (by omega), W_id (n := 1 + (k + 1) / (l.length : Int)) (by omega) (by omega), e3, W_id (n := g % 1048576 / (1 + (k + 1) / (l.length : Int))) (by omega) (by omega),
        W_id (n := (k + 1) * 7919 % 10007 + g % 1048576 / (1 + (k + 1) / (l.length : Int))) (by omega) (by omega), Int.tmod_eq_emod_of_nonneg (by omega)]
      refine ⟨by omega, ⟨m1, m2⟩, ⟨by decide, by decide, by decide⟩, by omega, by omega, by omega, ?_⟩
      show MOut.mk _ _ _ = _
      unfold rnS rnX
      rw [if_pos hl, hg]
    · simp only [gt_iff_lt, decide_eq_false_iff_not] at hl
      rw [Int.tmod_eq_emod_of_nonneg (by omega)]
      refine ⟨by omega, ?_⟩
      show MOut.mk _ _ _ = _
      unfold rnS rnX
      rw [if_neg hl, Int.add_zero])
def L_NewRing : Lay := { slots := [(0, .val tIs)] }
theorem T_NewRing (l : List Int) : mTree (P := P) [] (lpOf []) Try.f18 L_NewRing true (l, ()) =
  Tree.leaf { res := SV.ptr (nat_lit 100) (0 : Nat), boxes := [], news := [Ob.box [SV.sl tI l, SV.int IntKind.i64 (0 : Int)]] } := by kernel_rfl
def c_NewRing : MC P := MC.of (α := List Int × Unit) 18 L_NewRing (fun x => x) (fun x => x) (fun _ => rfl)
  (fun _ => none)
  (fun (l, _) => ⟨.ptr 100 0, [], [.box [.sl tI l, .int .i64 0]]⟩) (by kernel_rfl) (by kernel_rfl) (by kernel_rfl) (by
    rintro ⟨l, ⟨⟩⟩ hp
    refine m_of hm (own := true) (by kernel_rfl) (by kernel_rfl) (by kernel_rfl) (T_NewRing l) trivial ?_
    exact rfl)
def plR (l : List Int) : Nat → Int → List Int → List Int
  | 0, _, ps => ps
  | n + 1, k, ps => plR l n (k + 1) (ps ++ [2 + rnS l k 3])
def banAt (l ps : List Int) (k : Int) : Ban :=
  let b := rnS l k ((ps.length : Int) - 1) + 1
  let a := rnS l (k + 1) b
  let u := rnS l (k + 1 + 1) (ps.getD a.toNat 0)
  let v := rnS l (k + 1 + 1 + 1) (ps.getD b.toNat 0)
  (a, u, u + rnS l (k + 1 + 1 + 1 + 1) (ps.getD a.toNat 0 - u), b, v, v + rnS l (k + 1 + 1 + 1 + 1 + 1) (ps.getD b.toNat 0 - v))
def bnR (l ps : List Int) : Nat → Int → List Ban → List Ban
  | 0, _, bs => bs
  | n + 1, k, bs => bnR l ps n (k + 6) (bs ++ [banAt l ps k])
def kpsS (l : List Int) (k : Int) : List Int := plR l (2 + rnS l k 2).toNat (k + 1) []
def kRig (l : List Int) (k : Int) : Rig := (kpsS l k, bnR l (kpsS l k) (rnS l (k + 1 + (2 + rnS l k 2)) 5).toNat (k + 1 + (2 + rnS l k 2) + 1) [])
def kRigK (l : List Int) (k : Int) : Int := k + 1 + (2 + rnS l k 2) + 1 + 6 * rnS l (k + 1 + (2 + rnS l k 2)) 5
def smallP (ps : List Int) : Prop := ∀ p ∈ ps, 2 ≤ p ∧ p ≤ 4
theorem smallP_get {ps : List Int} (h : smallP ps) {i : Nat} (hi : i < ps.length) : 2 ≤ ps.getD i 0 ∧ ps.getD i 0 ≤ 4 := h _ (getD_mem (d := (0 : Int)) hi)
theorem plR_ok (l : List Int) : ∀ (n : Nat) (k : Int) (ps : List Int), 0 ≤ k → smallP ps → (plR l n k ps).length = ps.length + n ∧ smallP (plR l n k ps)
  | 0, _, ps, _, h => ⟨rfl, h⟩
  | n + 1, k, ps, h0, h => by
    have hr := rnS_rng (l := l) (k := k) (n := 3) h0 (by decide)
    obtain ⟨h1, h2⟩ := plR_ok l n (k + 1) (ps ++ [2 + rnS l k 3]) (by omega) (fun p hp => by
      rcases List.mem_append.1 hp with hp | hp
      · exact h p hp
      · rw [List.mem_singleton] at hp; omega)
    rw [plR]
    refine ⟨by rw [h1, List.length_append, List.length_singleton]; omega, h2⟩
def L_krig0 : Lay := { slots := [(0, .ptr 1 0), (2, .ptr 3088 0), (3, .ptr 4088 0), (4, .val tI)], boxes := [(1, [.val tIs, .val tI]), (3088, [.val tIs, .val (.sl (.pair tI (.pair tI (.pair tI tV))))]), (4088, [.row 3 tI, .row 110 (.pair tI (.pair tI (.pair tI tV)))])] }
def L_krig0_0 : Lay := { slots := [(0, .ptr 1 0), (2, .ptr 3088 0), (3, .ptr 4088 0)], boxes := [(1, [.val tIs, .val tI]), (3088, [.val tIs, .val (.sl (.pair tI (.pair tI (.pair tI tV))))]), (4088, [.row 3 tI, .row 110 (.pair tI (.pair tI (.pair tI tV)))])] }
def X_krig0 : Exit → St → Option Lay
  | .exit 0, _ => some L_krig0_0
  | _, _ => none
abbrev C_krig0 : Code := loopC (bodyOf Try.f19) 0
theorem B_krig0 (n : Int) (l : List Int) (k : Int) (xps : List Int) (xbs : List (Int × (Int × (Int × V)))) (ps : List Int) (bs : List (Int × (Int × (Int × V)))) : loopBodyA (P := P) [c_RNext.gc] (lpOf []) [] 88 (usd noU ([1])) (inner C_krig0) L_krig0 X_krig0 (α := Unit × Unit × Unit × Int × List Int × Int × List Int × List (Int × (Int × (Int × V))) × List Int × List (Int × (Int × (Int × V))) × Unit) (fun x => x) (fun x => x) ((), (), (), n, l, k, xps, xbs, ps, bs, ()) =
  Tree.cond (decide (n > (0 : Int))) (Tree.need ((0 : Int) ≤ k ∧ k < (1099511627776 : Int) ∧ (0 : Int) < (3 : Int)) (Tree.need ((List.length ps + List.length [IntKind.wrap IntKind.i64 ((2 : Int) + rnS l k (3 : Int))]) * (8 : Nat) ≤ (140737488355328 : Nat)) (Tree.leaf (Sum.inl (PUnit.unit, PUnit.unit, PUnit.unit, IntKind.wrap IntKind.i64 (n - (1 : Int)), l, k + (1 : Int), xps, xbs, ps ++ [IntKind.wrap IntKind.i64 ((2 : Int) + rnS l k (3 : Int))], bs, PUnit.unit))))) (Tree.leaf (Sum.inr (Exit.exit (0 : Nat), Lay.st L_krig0_0 (usd noU [(1 : Nat)]) (PUnit.unit, PUnit.unit, PUnit.unit, l, k, xps, xbs, ps, bs, PUnit.unit)))) := by kernel_rfl
def inv_krig0 : Unit × Unit × Unit × Int × List Int × Int × List Int × List (Int × (Int × (Int × V))) × List Int × List (Int × (Int × (Int × V))) × Unit → Prop := fun ((), (), (), n, l, k, xps, xbs, ps, bs, ()) => 0 ≤ n ∧ n ≤ 3 ∧ 0 ≤ k ∧ k + n ≤ 1000000000 ∧ (ps.length : Int) + n ≤ 3
def O_krig0 : Unit × Unit × Unit × Int × List Int × Int × List Int × List (Int × (Int × (Int × V))) × List Int × List (Int × (Int × (Int × V))) × Unit → Tree (Exit × St) := fun ((), (), (), n, l, k, xps, xbs, ps, bs, ()) => (.leaf (.exit 0, L_krig0_0.st (usd noU ([1])) ((), (), (), l, (k + n), xps, xbs, (plR l n.toNat k ps), bs, ())))
def R_krig0 : LRun := runOf 88 L_krig0 (fun x => x) (inv_krig0) (O_krig0)
theorem K_krig0 : LoopOk P [] 88 none (usd noU ([1])) C_krig0 (R_krig0) := by
  refine loop_of hm (cx := [c_RNext.gc]) [] (xl := X_krig0) (α := Unit × Unit × Unit × Int × List Int × Int × List Int × List (Int × (Int × (Int × V))) × List Int × List (Int × (Int × (Int × V))) × Unit) (fun x => x) (fun ((), (), (), n, l, k, xps, xbs, ps, bs, ()) => n.toNat) (fun _ => rfl) (by kernel_rfl) (by kernel_rfl) ?_ (by kernel_rfl) trivial ?_
  · intro e S L' h
    unfold X_krig0 at h
    split at h <;> first | (cases h; done) | (cases h; kernel_rfl) | (rcases bif_some h with h | h <;> cases h <;> kernel_rfl)
  · rintro ⟨⟨⟩, ⟨⟩, ⟨⟩, n, l, k, xps, xbs, ps, bs, ⟨⟩⟩ hinv Q hQ
    refine hold_of_eq (B_krig0 n l k xps xbs ps bs) ?_
    obtain ⟨h0, h1, h2, h3, h4⟩ := hinv
    have hr := rnS_rng (l := l) (k := k) (n := 3) h2 (by decide)
    rw [W_id (n := n - 1) (by omega) (by omega), W_id (n := 2 + rnS l k 3) (by omega) (by omega)]
    have hQ' : Q (.exit 0, L_krig0_0.st (usd noU [1]) ((), (), (), l, k + n, xps, xbs, plR l n.toNat k ps, bs, ())) := hQ
    refine ⟨fun c1 => ?_, fun c1 => ?_⟩
    · have d1 : 0 < n := of_decide_eq_true c1
      have hm : (n - 1).toNat < n.toNat := by omega
      rw [show n.toNat = (n - 1).toNat + 1 by omega, plR, show k + n = k + 1 + (n - 1) by omega] at hQ'
      refine ⟨⟨h2, by omega, by decide⟩, by show (ps.length + 1) * 8 ≤ _; omega, ⟨⟨by omega, by omega, by omega, by omega, ?_⟩, hm⟩, hQ'⟩
      show ((ps ++ [2 + rnS l k 3]).length : Int) + (n - 1) ≤ 3
      rw [List.length_append]; show ((ps.length + 1 : Nat) : Int) + _ ≤ _; omega
    · have d1 : ¬ 0 < n := of_decide_eq_false c1
      have e : n = 0 := by omega
      subst e
      rw [Int.add_zero] at hQ'
      exact hQ'
def L_krig2 : Lay := { slots := [(0, .ptr 1 0), (2, .ptr 3088 0), (3, .ptr 4088 0), (5, .val tI)], boxes := [(1, [.val tIs, .val tI]), (3088, [.val tIs, .val (.sl (.pair tI (.pair tI (.pair tI tV))))]), (4088, [.row 3 tI, .row 110 (.pair tI (.pair tI (.pair tI tV)))])] }
def L_krig2_0 : Lay := { slots := [(2, .ptr 3088 0), (3, .ptr 4088 0)], boxes := [(1, [.val tIs, .val tI]), (3088, [.val tIs, .val (.sl (.pair tI (.pair tI (.pair tI tV))))]), (4088, [.row 3 tI, .row 110 (.pair tI (.pair tI (.pair tI tV)))])] }
def X_krig2 : Exit → St → Option Lay
  | .exit 2, _ => some L_krig2_0
  | _, _ => none
abbrev C_krig2 : Code := loopC (bodyOf Try.f19) 2
theorem B_krig2 (n : Int) (l : List Int) (k : Int) (xps : List Int) (xbs : List (Int × (Int × (Int × V)))) (ps : List Int) (bs : List (Int × (Int × (Int × V)))) : loopBodyA (P := P) [c_RNext.gc] (lpOf []) [] 88 (usd noU ([1])) (inner C_krig2) L_krig2 X_krig2 (α := Unit × Unit × Unit × Int × List Int × Int × List Int × List (Int × (Int × (Int × V))) × List Int × List (Int × (Int × (Int × V))) × Unit) (fun x => x) (fun x => x) ((), (), (), n, l, k, xps, xbs, ps, bs, ()) =
  Tree.cond (decide (n > (0 : Int))) (Tree.need ((0 : Int) ≤ k ∧ k < (1099511627776 : Int) ∧ (0 : Int) < IntKind.wrap IntKind.i64 ((↑(List.length ps) : Int) - (1 : Int))) (Tree.need ((0 : Int) ≤ k + (1 : Int) ∧ k + (1 : Int) < (1099511627776 : Int) ∧ (0 : Int) < IntKind.wrap IntKind.i64 (rnS l k (IntKind.wrap IntKind.i64 ((↑(List.length ps) : Int) - (1 : Int))) + (1 : Int))) (Tree.need ((0 : Int) ≤ rnS l (k + (1 : Int)) (IntKind.wrap IntKind.i64 (rnS l k (IntKind.wrap IntKind.i64 ((↑(List.length ps) : Int) - (1 : Int))) + (1 : Int))) ∧ rnS l (k + (1 : Int)) (IntKind.wrap IntKind.i64 (rnS l k (IntKind.wrap IntKind.i64 ((↑(List.length ps) : Int) - (1 : Int))) + (1 : Int))) < (↑(List.length ps) : Int)) (Tree.need (Int.toNat (rnS l (k + (1 : Int)) (IntKind.wrap IntKind.i64 (rnS l k (IntKind.wrap IntKind.i64 ((↑(List.length ps) : Int) - (1 : Int))) + (1 : Int)))) < List.length ps) (Tree.need ((0 : Int) ≤ k + (1 : Int) + (1 : Int) ∧ k + (1 : Int) + (1 : Int) < (1099511627776 : Int) ∧ (0 : Int) < List.getD ps (Int.toNat (rnS l (k + (1 : Int)) (IntKind.wrap IntKind.i64 (rnS l k (IntKind.wrap IntKind.i64 ((↑(List.length ps) : Int) - (1 : Int))) + (1 : Int))))) (0 : Int)) (Tree.need ((0 : Int) ≤ IntKind.wrap IntKind.i64 (rnS l k (IntKind.wrap IntKind.i64 ((↑(List.length ps) : Int) - (1 : Int))) + (1 : Int)) ∧ IntKind.wrap IntKind.i64 (rnS l k (IntKind.wrap IntKind.i64 ((↑(List.length ps) : Int) - (1 : Int))) + (1 : Int)) < (↑(List.length ps) : Int)) (Tree.need (Int.toNat (IntKind.wrap IntKind.i64 (rnS l k (IntKind.wrap IntKind.i64 ((↑(List.length ps) : Int) - (1 : Int))) + (1 : Int))) < List.length ps) (Tree.need ((0 : Int) ≤ k + (1 : Int) + (1 : Int) + (1 : Int) ∧ k + (1 : Int) + (1 : Int) + (1 : Int) < (1099511627776 : Int) ∧ (0 : Int) < List.getD ps (Int.toNat (IntKind.wrap IntKind.i64 (rnS l k (IntKind.wrap IntKind.i64 ((↑(List.length ps) : Int) - (1 : Int))) + (1 : Int)))) (0 : Int)) (Tree.need ((0 : Int) ≤ rnS l (k + (1 : Int)) (IntKind.wrap IntKind.i64 (rnS l k (IntKind.wrap IntKind.i64 ((↑(List.length ps) : Int) - (1 : Int))) + (1 : Int))) ∧ rnS l (k + (1 : Int)) (IntKind.wrap IntKind.i64 (rnS l k (IntKind.wrap IntKind.i64 ((↑(List.length ps) : Int) - (1 : Int))) + (1 : Int))) < (↑(List.length ps) : Int)) (Tree.need (Int.toNat (rnS l (k + (1 : Int)) (IntKind.wrap IntKind.i64 (rnS l k (IntKind.wrap IntKind.i64 ((↑(List.length ps) : Int) - (1 : Int))) + (1 : Int)))) < List.length ps) (Tree.need ((0 : Int) ≤ k + (1 : Int) + (1 : Int) + (1 : Int) + (1 : Int) ∧ k + (1 : Int) + (1 : Int) + (1 : Int) + (1 : Int) < (1099511627776 : Int) ∧ (0 : Int) < IntKind.wrap IntKind.i64 (List.getD ps (Int.toNat (rnS l (k + (1 : Int)) (IntKind.wrap IntKind.i64 (rnS l k (IntKind.wrap IntKind.i64 ((↑(List.length ps) : Int) - (1 : Int))) + (1 : Int))))) (0 : Int) - rnS l (k + (1 : Int) + (1 : Int)) (List.getD ps (Int.toNat (rnS l (k + (1 : Int)) (IntKind.wrap IntKind.i64 (rnS l k (IntKind.wrap IntKind.i64 ((↑(List.length ps) : Int) - (1 : Int))) + (1 : Int))))) (0 : Int)))) (Tree.need ((0 : Int) ≤ IntKind.wrap IntKind.i64 (rnS l k (IntKind.wrap IntKind.i64 ((↑(List.length ps) : Int) - (1 : Int))) + (1 : Int)) ∧ IntKind.wrap IntKind.i64 (rnS l k (IntKind.wrap IntKind.i64 ((↑(List.length ps) : Int) - (1 : Int))) + (1 : Int)) < (↑(List.length ps) : Int)) (Tree.need (Int.toNat (IntKind.wrap IntKind.i64 (rnS l k (IntKind.wrap IntKind.i64 ((↑(List.length ps) : Int) - (1 : Int))) + (1 : Int))) < List.length ps) (Tree.need ((0 : Int) ≤ k + (1 : Int) + (1 : Int) + (1 : Int) + (1 : Int) + (1 : Int) ∧ k + (1 : Int) + (1 : Int) + (1 : Int) + (1 : Int) + (1 : Int) < (1099511627776 : Int) ∧ (0 : Int) < IntKind.wrap IntKind.i64 (List.getD ps (Int.toNat (IntKind.wrap IntKind.i64 (rnS l k (IntKind.wrap IntKind.i64 ((↑(List.length ps) : Int) - (1 : Int))) + (1 : Int)))) (0 : Int) - rnS l (k + (1 : Int) + (1 : Int) + (1 : Int)) (List.getD ps (Int.toNat (IntKind.wrap IntKind.i64 (rnS l k (IntKind.wrap IntKind.i64 ((↑(List.length ps) : Int) - (1 : Int))) + (1 : Int)))) (0 : Int)))) (Tree.need ((List.length bs + List.length [(rnS l (k + (1 : Int)) (IntKind.wrap IntKind.i64 (rnS l k (IntKind.wrap IntKind.i64 ((↑(List.length ps) : Int) - (1 : Int))) + (1 : Int))), rnS l (k + (1 : Int) + (1 : Int)) (List.getD ps (Int.toNat (rnS l (k + (1 : Int)) (IntKind.wrap IntKind.i64 (rnS l k (IntKind.wrap IntKind.i64 ((↑(List.length ps) : Int) - (1 : Int))) + (1 : Int))))) (0 : Int)), IntKind.wrap IntKind.i64 (rnS l (k + (1 : Int) + (1 : Int)) (List.getD ps (Int.toNat (rnS l (k + (1 : Int)) (IntKind.wrap IntKind.i64 (rnS l k (IntKind.wrap IntKind.i64 ((↑(List.length ps) : Int) - (1 : Int))) + (1 : Int))))) (0 : Int)) + rnS l (k + (1 : Int) + (1 : Int) + (1 : Int) + (1 : Int)) (IntKind.wrap IntKind.i64 (List.getD ps (Int.toNat (rnS l (k + (1 : Int)) (IntKind.wrap IntKind.i64 (rnS l k (IntKind.wrap IntKind.i64 ((↑(List.length ps) : Int) - (1 : Int))) + (1 : Int))))) (0 : Int) - rnS l (k + (1 : Int) + (1 : Int)) (List.getD ps (Int.toNat (rnS l (k + (1 : Int)) (IntKind.wrap IntKind.i64 (rnS l k (IntKind.wrap IntKind.i64 ((↑(List.length ps) : Int) - (1 : Int))) + (1 : Int))))) (0 : Int))))), IntKind.wrap IntKind.i64 (rnS l k (IntKind.wrap IntKind.i64 ((↑(List.length ps) : Int) - (1 : Int))) + (1 : Int)), rnS l (k + (1 : Int) + (1 : Int) + (1 : Int)) (List.getD ps (Int.toNat (IntKind.wrap IntKind.i64 (rnS l k (IntKind.wrap IntKind.i64 ((↑(List.length ps) : Int) - (1 : Int))) + (1 : Int)))) (0 : Int)), IntKind.wrap IntKind.i64 (rnS l (k + (1 : Int) + (1 : Int) + (1 : Int)) (List.getD ps (Int.toNat (IntKind.wrap IntKind.i64 (rnS l k (IntKind.wrap IntKind.i64 ((↑(List.length ps) : Int) - (1 : Int))) + (1 : Int)))) (0 : Int)) + rnS l (k + (1 : Int) + (1 : Int) + (1 : Int) + (1 : Int) + (1 : Int)) (IntKind.wrap IntKind.i64 (List.getD ps (Int.toNat (IntKind.wrap IntKind.i64 (rnS l k (IntKind.wrap IntKind.i64 ((↑(List.length ps) : Int) - (1 : Int))) + (1 : Int)))) (0 : Int) - rnS l (k + (1 : Int) + (1 : Int) + (1 : Int)) (List.getD ps (Int.toNat (IntKind.wrap IntKind.i64 (rnS l k (IntKind.wrap IntKind.i64 ((↑(List.length ps) : Int) - (1 : Int))) + (1 : Int)))) (0 : Int))))))]) * (48 : Nat) ≤ (140737488355328 : Nat)) (Tree.leaf (Sum.inl (PUnit.unit, PUnit.unit, PUnit.unit, IntKind.wrap IntKind.i64 (n - (1 : Int)), l, k + (1 : Int) + (1 : Int) + (1 : Int) + (1 : Int) + (1 : Int) + (1 : Int), xps, xbs, ps, bs ++ [(rnS l (k + (1 : Int)) (IntKind.wrap IntKind.i64 (rnS l k (IntKind.wrap IntKind.i64 ((↑(List.length ps) : Int) - (1 : Int))) + (1 : Int))), rnS l (k + (1 : Int) + (1 : Int)) (List.getD ps (Int.toNat (rnS l (k + (1 : Int)) (IntKind.wrap IntKind.i64 (rnS l k (IntKind.wrap IntKind.i64 ((↑(List.length ps) : Int) - (1 : Int))) + (1 : Int))))) (0 : Int)), IntKind.wrap IntKind.i64 (rnS l (k + (1 : Int) + (1 : Int)) (List.getD ps (Int.toNat (rnS l (k + (1 : Int)) (IntKind.wrap IntKind.i64 (rnS l k (IntKind.wrap IntKind.i64 ((↑(List.length ps) : Int) - (1 : Int))) + (1 : Int))))) (0 : Int)) + rnS l (k + (1 : Int) + (1 : Int) + (1 : Int) + (1 : Int)) (IntKind.wrap IntKind.i64 (List.getD ps (Int.toNat (rnS l (k + (1 : Int)) (IntKind.wrap IntKind.i64 (rnS l k (IntKind.wrap IntKind.i64 ((↑(List.length ps) : Int) - (1 : Int))) + (1 : Int))))) (0 : Int) - rnS l (k + (1 : Int) + (1 : Int)) (List.getD ps (Int.toNat (rnS l (k + (1 : Int)) (IntKind.wrap IntKind.i64 (rnS l k (IntKind.wrap IntKind.i64 ((↑(List.length ps) : Int) - (1 : Int))) + (1 : Int))))) (0 : Int))))), IntKind.wrap IntKind.i64 (rnS l k (IntKind.wrap IntKind.i64 ((↑(List.length ps) : Int) - (1 : Int))) + (1 : Int)), rnS l (k + (1 : Int) + (1 : Int) + (1 : Int)) (List.getD ps (Int.toNat (IntKind.wrap IntKind.i64 (rnS l k (IntKind.wrap IntKind.i64 ((↑(List.length ps) : Int) - (1 : Int))) + (1 : Int)))) (0 : Int)), IntKind.wrap IntKind.i64 (rnS l (k + (1 : Int) + (1 : Int) + (1 : Int)) (List.getD ps (Int.toNat (IntKind.wrap IntKind.i64 (rnS l k (IntKind.wrap IntKind.i64 ((↑(List.length ps) : Int) - (1 : Int))) + (1 : Int)))) (0 : Int)) + rnS l (k + (1 : Int) + (1 : Int) + (1 : Int) + (1 : Int) + (1 : Int)) (IntKind.wrap IntKind.i64 (List.getD ps (Int.toNat (IntKind.wrap IntKind.i64 (rnS l k (IntKind.wrap IntKind.i64 ((↑(List.length ps) : Int) - (1 : Int))) + (1 : Int)))) (0 : Int) - rnS l (k + (1 : Int) + (1 : Int) + (1 : Int)) (List.getD ps (Int.toNat (IntKind.wrap IntKind.i64 (rnS l k (IntKind.wrap IntKind.i64 ((↑(List.length ps) : Int) - (1 : Int))) + (1 : Int)))) (0 : Int))))))], PUnit.unit)))))))))))))))))) (Tree.leaf (Sum.inr (Exit.exit (2 : Nat), Lay.st L_krig2_0 (usd noU [(1 : Nat)]) (PUnit.unit, PUnit.unit, l, k, xps, xbs, ps, bs, PUnit.unit)))) := by kernel_rfl
def inv_krig2 : Unit × Unit × Unit × Int × List Int × Int × List Int × List (Int × (Int × (Int × V))) × List Int × List (Int × (Int × (Int × V))) × Unit → Prop := fun ((), (), (), n, l, k, xps, xbs, ps, bs, ()) => 0 ≤ n ∧ n ≤ 5 ∧ 0 ≤ k ∧ k + 6 * n ≤ 1000000000 ∧ (2 ≤ ps.length ∧ ps.length ≤ 3) ∧ smallP ps ∧ (bs.length : Int) + n ≤ 5
def O_krig2 : Unit × Unit × Unit × Int × List Int × Int × List Int × List (Int × (Int × (Int × V))) × List Int × List (Int × (Int × (Int × V))) × Unit → Tree (Exit × St) := fun ((), (), (), n, l, k, xps, xbs, ps, bs, ()) => (.leaf (.exit 2, L_krig2_0.st (usd noU ([1])) ((), (), l, (k + 6 * n), xps, xbs, ps, (bnR l ps n.toNat k bs), ())))
def R_krig2 : LRun := runOf 88 L_krig2 (fun x => x) (inv_krig2) (O_krig2)
theorem K_krig2 : LoopOk P [] 88 none (usd noU ([1])) C_krig2 (R_krig2) := by
  refine loop_of hm (cx := [c_RNext.gc]) [] (xl := X_krig2) (α := Unit × Unit × Unit × Int × List Int × Int × List Int × List (Int × (Int × (Int × V))) × List Int × List (Int × (Int × (Int × V))) × Unit) (fun x => x) (fun ((), (), (), n, l, k, xps, xbs, ps, bs, ()) => n.toNat) (fun _ => rfl) (by kernel_rfl) (by kernel_rfl) ?_ (by kernel_rfl) trivial ?_
  · intro e S L' h
    unfold X_krig2 at h
    split at h <;> first | (cases h; done) | (cases h; kernel_rfl) | (rcases bif_some h with h | h <;> cases h <;> kernel_rfl)
  · rintro ⟨⟨⟩, ⟨⟩, ⟨⟩, n, l, k, xps, xbs, ps, bs, ⟨⟩⟩ hinv Q hQ
    refine hold_of_eq (B_krig2 n l k xps xbs ps bs) ?_
    obtain ⟨h0, h1, h2, h3, ⟨h4, h5⟩, h6, h7⟩ := hinv
    have hQ' : Q (.exit 2, L_krig2_0.st (usd noU [1]) ((), (), l, k + 6 * n, xps, xbs, ps, bnR l ps n.toNat k bs, ())) := hQ
    refine ⟨fun c1 => ?_, fun c1 => ?_⟩
    · have d1 : 0 < n := of_decide_eq_true c1
      have hm : (n - 1).toNat < n.toNat := by omega
      rw [W_id (n := n - 1) (by omega) (by omega)]
      rw [show n.toNat = (n - 1).toNat + 1 by omega, bnR, show k + 6 * n = k + 6 + 6 * (n - 1) by omega] at hQ'
      have ek : k + 1 + 1 + 1 + 1 + 1 + 1 = k + 6 := by omega
      rw [W_id (n := (ps.length : Int) - 1) (by omega) (by omega)]
      have r1 := rnS_rng (l := l) (k := k) (n := (ps.length : Int) - 1) h2 (by omega)
      rw [W_id (n := rnS l k ((ps.length : Int) - 1) + 1) (by omega) (by omega)]
      have hb : banAt l ps k = banAt l ps k := rfl
      conv at hb => rhs; unfold banAt
      dsimp only at hb
      rw [hb] at hQ'
      clear hb
      have rb : 1 ≤ rnS l k ((ps.length : Int) - 1) + 1 ∧ rnS l k ((ps.length : Int) - 1) + 1 ≤ (ps.length : Int) - 1 := by omega
      generalize rnS l k ((ps.length : Int) - 1) + 1 = b at *
      have r2 := rnS_rng (l := l) (k := k + 1) (n := b) (by omega) (by omega)
      generalize rnS l (k + 1) b = a at *
      have pa := smallP_get h6 (i := a.toNat) (by omega)
      have pb := smallP_get h6 (i := b.toNat) (by omega)
      generalize ps.getD a.toNat 0 = qa at *
      generalize ps.getD b.toNat 0 = qb at *
      have r3 := rnS_rng (l := l) (k := k + 1 + 1) (n := qa) (by omega) (by omega)
      have r4 := rnS_rng (l := l) (k := k + 1 + 1 + 1) (n := qb) (by omega) (by omega)
      generalize rnS l (k + 1 + 1) qa = u at *
      generalize rnS l (k + 1 + 1 + 1) qb = v at *
      rw [W_id (n := qa - u) (by omega) (by omega), W_id (n := qb - v) (by omega) (by omega)]
      have r5 := rnS_rng (l := l) (k := k + 1 + 1 + 1 + 1) (n := qa - u) (by omega) (by omega)
      have r6 := rnS_rng (l := l) (k := k + 1 + 1 + 1 + 1 + 1) (n := qb - v) (by omega) (by omega)
      generalize rnS l (k + 1 + 1 + 1 + 1) (qa - u) = u' at *
      generalize rnS l (k + 1 + 1 + 1 + 1 + 1) (qb - v) = v' at *
      rw [W_id (n := u + u') (by omega) (by omega), W_id (n := v + v') (by omega) (by omega), ek]
      refine ⟨⟨h2, by omega, by omega⟩, ⟨by omega, by omega, by omega⟩, ⟨by omega, by omega⟩, by omega, ⟨by omega, by omega, by omega⟩, ⟨by omega, by omega⟩, by omega, ⟨by omega, by omega, by omega⟩, ⟨by omega, by omega⟩, by omega, ⟨by omega, by omega, by omega⟩, ⟨by omega, by omega⟩, by omega, ⟨by omega, by omega, by omega⟩, ?_, ⟨⟨by omega, by omega, by omega, by omega, ⟨h4, h5⟩, h6, ?_⟩, hm⟩, hQ'⟩
      · show (bs.length + 1) * 48 ≤ 140737488355328; omega
      · show ((bs ++ [_]).length : Int) + (n - 1) ≤ 5
        rw [List.length_append]; show ((bs.length + 1 : Nat) : Int) + _ ≤ _; omega
    · have d1 : ¬ 0 < n := of_decide_eq_false c1
      have e : n = 0 := by omega
      subst e
      rw [Int.mul_zero, Int.add_zero] at hQ'
      exact hQ'
def L_RigOf : Lay := { slots := [(0, .ptr 1 0)], boxes := [(1, [.val tIs, .val tI])] }
theorem T_RigOf (l : List Int) (k : Int) : mTree (P := P) [c_RNext.gc] (lpOf [(0, R_krig0), (2, R_krig2)]) Try.f19 L_RigOf false ((), l, k, ()) =
  Tree.need ((0 : Int) ≤ k ∧ k < (1099511627776 : Int) ∧ (0 : Int) < (2 : Int)) (Tree.need (inv_krig0 ((), (), (), IntKind.wrap IntKind.i64 ((2 : Int) + rnS l k (2 : Int)), l, k + (1 : Int), [], [], [], [], ())) (Tree.need ((0 : Int) ≤ k + (1 : Int) + IntKind.wrap IntKind.i64 ((2 : Int) + rnS l k (2 : Int)) ∧ k + (1 : Int) + IntKind.wrap IntKind.i64 ((2 : Int) + rnS l k (2 : Int)) < (1099511627776 : Int) ∧ (0 : Int) < (5 : Int)) (Tree.need (inv_krig2 ((), (), (), rnS l (k + (1 : Int) + IntKind.wrap IntKind.i64 ((2 : Int) + rnS l k (2 : Int))) (5 : Int), l, k + (1 : Int) + IntKind.wrap IntKind.i64 ((2 : Int) + rnS l k (2 : Int)) + (1 : Int), [], [], plR l (Int.toNat (IntKind.wrap IntKind.i64 ((2 : Int) + rnS l k (2 : Int)))) (k + (1 : Int)) [], [], ())) (Tree.leaf { res := SV.agg [SV.sl tI (plR l (Int.toNat (IntKind.wrap IntKind.i64 ((2 : Int) + rnS l k (2 : Int)))) (k + (1 : Int)) []), SV.sl (Ty.pair tI (Ty.pair tI (Ty.pair tI tV))) (bnR l (plR l (Int.toNat (IntKind.wrap IntKind.i64 ((2 : Int) + rnS l k (2 : Int)))) (k + (1 : Int)) []) (Int.toNat (rnS l (k + (1 : Int) + IntKind.wrap IntKind.i64 ((2 : Int) + rnS l k (2 : Int))) (5 : Int))) (k + (1 : Int) + IntKind.wrap IntKind.i64 ((2 : Int) + rnS l k (2 : Int)) + (1 : Int)) [])], boxes := [[SV.sl tI l, SV.int IntKind.i64 (k + (1 : Int) + IntKind.wrap IntKind.i64 ((2 : Int) + rnS l k (2 : Int)) + (1 : Int) + (6 : Int) * rnS l (k + (1 : Int) + IntKind.wrap IntKind.i64 ((2 : Int) + rnS l k (2 : Int))) (5 : Int))]] })))) := by kernel_rfl
def c_RigOf : MC P := MC.of (α := Unit × List Int × Int × Unit) 19 L_RigOf (fun x => x) (fun x => x) (fun _ => rfl)
  (fun x => some (0 ≤ x.2.2.1 ∧ x.2.2.1 ≤ 500000000))
  (fun x => ⟨.agg [.sl tI (kRig x.2.1 x.2.2.1).1, .sl tBan (kRig x.2.1 x.2.2.1).2], [[.sl tI x.2.1, .int .i64 (kRigK x.2.1 x.2.2.1)]], []⟩) (by kernel_rfl) (by kernel_rfl) (by kernel_rfl) (by
    rintro ⟨⟨⟩, l, k, ⟨⟩⟩ hp
    refine m_of hm (own := false) (by kernel_rfl) (by kernel_rfl) (by kernel_rfl) (T_RigOf l k) ⟨K_krig0, K_krig2, trivial⟩ ?_
    try dsimp only at hp
    try dsimp only
    obtain ⟨p1, p2⟩ : 0 ≤ k ∧ k ≤ 500000000 := hp
    have r1 := rnS_rng (l := l) (k := k) (n := 2) p1 (by decide)
    rw [W_id (n := 2 + rnS l k 2) (by omega) (by omega)]
    have r2 := rnS_rng (l := l) (k := k + 1 + (2 + rnS l k 2)) (n := 5) (by omega) (by decide)
    obtain ⟨q1, q2⟩ := plR_ok l (2 + rnS l k 2).toNat (k + 1) [] (by omega) (fun p hp => by cases hp)
    rw [List.length_nil] at q1
    refine ⟨⟨p1, by omega, by decide⟩, ⟨by omega, by omega, by omega, by omega, by rw [List.length_nil]; omega⟩, ⟨by omega, by omega, by decide⟩, ⟨by omega, by omega, by omega, by omega, ⟨by omega, by omega⟩, q2, by rw [List.length_nil]; omega⟩, rfl⟩)
end
end Go.MR
