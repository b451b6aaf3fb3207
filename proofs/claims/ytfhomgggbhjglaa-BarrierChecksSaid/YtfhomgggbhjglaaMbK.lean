/- The law BarrierChecks. -/
import Derived.Test.YtfhomgggbhjglaaMbJ
namespace Go.MB
open Go Go.Sx Go.Proofs
set_option linter.unusedVariables false
set_option linter.unusedSimpArgs false
noncomputable section
theorem bigH_ok {h : Hs} (hb : bigH h = false) : hOk h := by
  unfold bigH at hb
  simp only [Bool.or_eq_false_iff, decide_eq_false_iff_not, List.any_eq_false, decide_eq_true_eq] at hb
  obtain ⟨h1, h2, h3⟩ := hb
  exact ⟨by omega, by omega, fun q hq => by have := h3 q hq; omega⟩
theorem houK_hOk (l : List Int) {k : Int} (h : 0 ≤ k) : hOk (houK l k) := by
  obtain ⟨h1, h2, h3, _⟩ := houK_ok l h
  exact ⟨by omega, by omega, fun q hq => by have := h3 q hq; omega⟩
theorem prf_len {envs : List (List Int)} : ∀ {l so : List Int} {n : Nat} {x : List Int}, prf envs l so n = some x → x.length = so.length + n
  | l, so, 0, x, h => by
    rw [prf_zero] at h
    cases h; rfl
  | [], so, n + 1, x, h => by rw [prf] at h; cases h
  | k :: r, so, n + 1, x, h => by
    rw [prf] at h
    split at h
    · split at h
      · rename_i y hy
        cases h
        have := prf_len hy
        rw [List.length_append, List.length_singleton] at this
        omega
      · exact prf_len h
    · exact prf_len h
theorem prS_len (h : Hs) (tick press : Int) : ((prS h tick press).1.length : Int) < 2 ^ 62 := by
  unfold prS
  split
  · show ((0 : Nat) : Int) < 2 ^ 62; decide
  · rename_i c
    have k := (houseE_ok (Decidable.not_not.1 c)).nd
    dsimp only
    unfold proofF
    cases e : prf h.2.1 (standF (soundF h tick press) h.2.1 0) [] h.2.2.toNat with
    | none => show ((0 : Nat) : Int) < 2 ^ 62; decide
    | some x =>
      have := prf_len e
      rw [List.length_nil] at this
      show (x.length : Int) < 2 ^ 62
      omega
theorem standF_len (f : List Bool) (l : List (List Int)) (i : Int) (h : 0 ≤ i) : (standF f l i).length ≤ l.length := (standF_ok f l i h).1
theorem stS_len {h : Hs} (hk : hOk h) (tick press : Int) : ((stS h tick press).length : Int) < 2 ^ 62 := by
  unfold stS
  split
  · show ((0 : Nat) : Int) < 2 ^ 62; decide
  · have := standF_len (soundF h tick press) h.2.1 0 (Int.le_refl _)
    have := hk.2.1
    omega
def L_Checks0 : Lay := { slots := [(1, .val tI), (11, .row 28 (.pair (.sl (.pair tI tV)) (.pair (.sl tIs) tI))), (12, .row 2 tI), (13, .row 2 tI), (14, .val tI)] }
def L_Checks0_0 : Lay := { slots := [(10, .val .bool)] }
def L_Checks0_1 : Lay := { slots := [] }
def X_Checks0 : Exit → St → Option Lay
  | .ret, _ => some L_Checks0_0
  | .exit 0, _ => some L_Checks0_1
  | _, _ => none
abbrev C_Checks0 : Code := loopC (bodyOf Try.f7) 0
theorem B_Checks0 (i : Int) (hs : List (List (Int × V) × (List (List Int) × Int))) (ts ps : List Int) (k : Int) : loopBodyA (P := P) [c_OwnHouse.gc, c_Proof.gc, c_rProof.gc, c_House.gc, c_rHouse.gc, c_Effective.gc, c_rEffective.gc, c_Standing.gc, c_rStanding.gc, c_SameInts.gc, c_SameHouse.gc] (lpOf []) [] 156 noU (inner C_Checks0) L_Checks0 X_Checks0 (α := Int × List (List (Int × V) × (List (List Int) × Int)) × List Int × List Int × Int × Unit) (fun x => x) (fun x => x) (i, hs, ts, ps, k, ()) =
  Tree.cond (decide (k < (2 : Int))) (Tree.need ((0 : Int) ≤ k ∧ k < (↑(List.length hs) : Int)) (Tree.need (Int.toNat k < List.length hs) (Tree.need (hOk (List.getD hs (Int.toNat k) ([], [], (0 : Int)))) (Tree.need ((0 : Int) ≤ k ∧ k < (↑(List.length ts) : Int)) (Tree.need (Int.toNat k < List.length ts) (Tree.need ((0 : Int) ≤ k ∧ k < (↑(List.length ps) : Int)) (Tree.need (Int.toNat k < List.length ps) (Tree.need (hOk (List.getD hs (Int.toNat k) ([], [], (0 : Int)))) (Tree.need ((0 : Int) ≤ k ∧ k < (↑(List.length hs) : Int)) (Tree.need (Int.toNat k < List.length hs) (Tree.need ((0 : Int) ≤ k ∧ k < (↑(List.length ts) : Int)) (Tree.need (Int.toNat k < List.length ts) (Tree.need ((0 : Int) ≤ k ∧ k < (↑(List.length ps) : Int)) (Tree.need (Int.toNat k < List.length ps) (Tree.need (hOk (List.getD hs (Int.toNat k) ([], [], (0 : Int)))) (Tree.need (hOk (List.getD hs (Int.toNat k) ([], [], (0 : Int)))) (Tree.need ((0 : Int) ≤ k ∧ k < (↑(List.length hs) : Int)) (Tree.need (Int.toNat k < List.length hs) (Tree.need (hOk (List.getD hs (Int.toNat k) ([], [], (0 : Int)))) (Tree.cond (houseE (List.getD hs (Int.toNat k) ([], [], (0 : Int))) != houseE (List.getD hs (Int.toNat k) ([], [], (0 : Int)))) (Tree.leaf (Sum.inr (Exit.ret, Lay.st L_Checks0_0 noU (false, PUnit.unit)))) (Tree.need ((0 : Int) ≤ k ∧ k < (↑(List.length ts) : Int)) (Tree.need (Int.toNat k < List.length ts) (Tree.need ((0 : Int) ≤ k ∧ k < (↑(List.length ps) : Int)) (Tree.need (Int.toNat k < List.length ps) (Tree.need (hOk (List.getD hs (Int.toNat k) ([], [], (0 : Int)))) (Tree.need ((0 : Int) ≤ k ∧ k < (↑(List.length hs) : Int)) (Tree.need (Int.toNat k < List.length hs) (Tree.need ((0 : Int) ≤ k ∧ k < (↑(List.length ts) : Int)) (Tree.need (Int.toNat k < List.length ts) (Tree.need ((0 : Int) ≤ k ∧ k < (↑(List.length ps) : Int)) (Tree.need (Int.toNat k < List.length ps) (Tree.need (hOk (List.getD hs (Int.toNat k) ([], [], (0 : Int)))) (Tree.cond (!efS (List.getD hs (Int.toNat k) ([], [], (0 : Int))) i (List.getD ts (Int.toNat k) (0 : Int)) (List.getD ps (Int.toNat k) (0 : Int)) == efS (List.getD hs (Int.toNat k) ([], [], (0 : Int))) i (List.getD ts (Int.toNat k) (0 : Int)) (List.getD ps (Int.toNat k) (0 : Int))) (Tree.leaf (Sum.inr (Exit.ret, Lay.st L_Checks0_0 noU (false, PUnit.unit)))) (Tree.need ((0 : Int) ≤ k ∧ k < (↑(List.length ts) : Int)) (Tree.need (Int.toNat k < List.length ts) (Tree.need ((0 : Int) ≤ k ∧ k < (↑(List.length ps) : Int)) (Tree.need (Int.toNat k < List.length ps) (Tree.need (hOk (List.getD hs (Int.toNat k) ([], [], (0 : Int)))) (Tree.need ((0 : Int) ≤ k ∧ k < (↑(List.length hs) : Int)) (Tree.need (Int.toNat k < List.length hs) (Tree.need ((0 : Int) ≤ k ∧ k < (↑(List.length ts) : Int)) (Tree.need (Int.toNat k < List.length ts) (Tree.need ((0 : Int) ≤ k ∧ k < (↑(List.length ps) : Int)) (Tree.need (Int.toNat k < List.length ps) (Tree.need (hOk (List.getD hs (Int.toNat k) ([], [], (0 : Int)))) (Tree.need (stS (List.getD hs (Int.toNat k) ([], [], (0 : Int))) (List.getD ts (Int.toNat k) (0 : Int)) (List.getD ps (Int.toNat k) (0 : Int)) = stS (List.getD hs (Int.toNat k) ([], [], (0 : Int))) (List.getD ts (Int.toNat k) (0 : Int)) (List.getD ps (Int.toNat k) (0 : Int)) ∧ (↑(List.length (stS (List.getD hs (Int.toNat k) ([], [], (0 : Int))) (List.getD ts (Int.toNat k) (0 : Int)) (List.getD ps (Int.toNat k) (0 : Int)))) : Int) < (2 : Int) ^ (62 : Nat)) (Tree.cond false (Tree.leaf (Sum.inr (Exit.ret, Lay.st L_Checks0_0 noU (false, PUnit.unit)))) (Tree.need ((prS (List.getD hs (Int.toNat k) ([], [], (0 : Int))) (List.getD ts (Int.toNat k) (0 : Int)) (List.getD ps (Int.toNat k) (0 : Int))).fst = (prS (List.getD hs (Int.toNat k) ([], [], (0 : Int))) (List.getD ts (Int.toNat k) (0 : Int)) (List.getD ps (Int.toNat k) (0 : Int))).fst ∧ (↑(List.length (prS (List.getD hs (Int.toNat k) ([], [], (0 : Int))) (List.getD ts (Int.toNat k) (0 : Int)) (List.getD ps (Int.toNat k) (0 : Int))).fst) : Int) < (2 : Int) ^ (62 : Nat)) (Tree.cond false (Tree.leaf (Sum.inr (Exit.ret, Lay.st L_Checks0_0 noU (false, PUnit.unit)))) (Tree.cond (!(prS (List.getD hs (Int.toNat k) ([], [], (0 : Int))) (List.getD ts (Int.toNat k) (0 : Int)) (List.getD ps (Int.toNat k) (0 : Int))).snd == (prS (List.getD hs (Int.toNat k) ([], [], (0 : Int))) (List.getD ts (Int.toNat k) (0 : Int)) (List.getD ps (Int.toNat k) (0 : Int))).snd) (Tree.leaf (Sum.inr (Exit.ret, Lay.st L_Checks0_0 noU (false, PUnit.unit)))) (Tree.need ((0 : Int) ≤ k ∧ k < (↑(List.length hs) : Int)) (Tree.need (Int.toNat k < List.length hs) (Tree.need (hOk (List.getD hs (Int.toNat k) ([], [], (0 : Int))) ∧ hOk (List.getD hs (Int.toNat k) ([], [], (0 : Int)))) (Tree.cond (!sameH (List.getD hs (Int.toNat k) ([], [], (0 : Int))) (List.getD hs (Int.toNat k) ([], [], (0 : Int)))) (Tree.leaf (Sum.inr (Exit.ret, Lay.st L_Checks0_0 noU (false, PUnit.unit)))) (Tree.leaf (Sum.inl (i, hs, ts, ps, IntKind.wrap IntKind.i64 (k + (1 : Int)), PUnit.unit))))))))))))))))))))))))))))))))))))))))))))))))))))))))) (Tree.leaf (Sum.inr (Exit.exit (0 : Nat), Lay.st L_Checks0_1 noU PUnit.unit))) := by kernel_rfl
def inv_Checks0 : Int × List (List (Int × V) × (List (List Int) × Int)) × List Int × List Int × Int × Unit → Prop := fun (i, hs, ts, ps, k, ()) => 0 ≤ k ∧ k ≤ 2 ∧ hs.length = 2 ∧ ts.length = 2 ∧ ps.length = 2 ∧ ∀ x ∈ hs, hOk x
def O_Checks0 : Int × List (List (Int × V) × (List (List Int) × Int)) × List Int × List Int × Int × Unit → Tree (Exit × St) := fun (i, hs, ts, ps, k, ()) => (.leaf (.exit 0, L_Checks0_1.st noU ()))
def R_Checks0 : LRun := runOf 156 L_Checks0 (fun x => x) (inv_Checks0) (O_Checks0)
theorem K_Checks0 : LoopOk P [] 156 none noU C_Checks0 (R_Checks0) := by
  refine loop_of hm (cx := [c_OwnHouse.gc, c_Proof.gc, c_rProof.gc, c_House.gc, c_rHouse.gc, c_Effective.gc, c_rEffective.gc, c_Standing.gc, c_rStanding.gc, c_SameInts.gc, c_SameHouse.gc]) [] (xl := X_Checks0) (α := Int × List (List (Int × V) × (List (List Int) × Int)) × List Int × List Int × Int × Unit) (fun x => x) (fun (i, hs, ts, ps, k, ()) => (2 - k).toNat) (fun _ => rfl) (by kernel_rfl) (by kernel_rfl) ?_ (by kernel_rfl) trivial ?_
  · intro e S L' h
    unfold X_Checks0 at h
    split at h <;> first | (cases h; done) | (cases h; kernel_rfl) | (rcases bif_some h with h | h <;> cases h <;> kernel_rfl)
  · rintro ⟨i, hs, ts, ps, k, ⟨⟩⟩ hinv Q hQ
    refine hold_of_eq (B_Checks0 i hs ts ps k) ?_
    obtain ⟨h0, h1, h2, h3, h6, h4⟩ := hinv
    rw [W_id (n := k + 1) (by omega) (by omega)]
    refine ⟨fun c1 => ?_, fun c1 => hQ⟩
    have c1 := of_decide_eq_true c1
    have a1 : 0 ≤ k ∧ k < (hs.length : Int) := by omega
    have a2 : k.toNat < hs.length := by omega
    have b1 : 0 ≤ k ∧ k < (ts.length : Int) := by omega
    have b2 : k.toNat < ts.length := by omega
    have p1 : 0 ≤ k ∧ k < (ps.length : Int) := by omega
    have p2 : k.toNat < ps.length := by omega
    have hk : hOk (hs.getD k.toNat ([], [], 0)) := h4 _ (getD_mem (by omega))
    have e1 : ∀ z : Int, (z != z) = false := fun z => by simp
    have e2 : ∀ z : Bool, (z == z) = true := fun z => by simp
    have e3 : ∀ z : Hs, sameH z z = true := fun z => sameH_iff.2 rfl
    rw [e1, e2, e2, e3]
    exact ⟨a1, a2, hk, b1, b2, p1, p2, hk, a1, a2, b1, b2, p1, p2, hk, hk, a1, a2, hk, fun h => (by cases h), fun _ => ⟨b1, b2, p1, p2, hk, a1, a2, b1, b2, p1, p2, hk, fun h => (by cases h), fun _ => ⟨b1, b2, p1, p2, hk, a1, a2, b1, b2, p1, p2, hk, ⟨rfl, stS_len hk _ _⟩, fun h => (by cases h), fun _ => ⟨⟨rfl, prS_len _ _ _⟩, fun h => (by cases h), fun _ => ⟨fun h => (by cases h), fun _ => ⟨a1, a2, ⟨hk, hk⟩, fun h => (by cases h), fun _ => ⟨⟨⟨by omega, by omega, h2, h3, h6, h4⟩, by show (2 - (k + 1)).toNat < (2 - k).toNat; omega⟩, hQ⟩⟩⟩⟩⟩⟩⟩
theorem T_BarrierChecks (h_0 : List (Int × V)) (h_1 : List (List Int)) (h_2 i tick press : Int) (nums : List Int) : fnTree (P := P) [c_BigHouse.gc, c_awake.gc, c_NewRing.gc, c_HouseOf.gc, c_Mod64.gc] (lpOf [(0, R_Checks0)]) Try.f7 (encL 0 [.agg (.pair (.sl (.pair tI tV)) (.pair (.sl tIs) tI)), .val tI, .val tI, .val tI, .val tIs] ((h_0, (h_1, h_2)), i, tick, press, nums, ())) =
  Tree.cond (bigH (h_0, h_1, h_2)) (Tree.leaf (SV.bool true)) (Tree.need ((0 : Int) ≤ (0 : Int) ∧ (0 : Int) ≤ (500000000 : Int)) (Tree.need ((0 : Int) < (120 : Int) ∧ R64 (120 : Int)) (Tree.need ((0 : Int) < (1600 : Int) ∧ R64 (1600 : Int)) (Tree.need (inv_Checks0 (i, [(h_0, h_1, h_2), houK nums (0 : Int)], [tick, tick % (120 : Int)], [press, press % (1600 : Int)], (0 : Int), ())) (Tree.leaf (SV.bool true)))))) := by kernel_rfl
def c_BarrierChecks : PC P := PC.of (α := (List (Int × V) × (List (List Int) × Int)) × Int × Int × Int × List Int × Unit) 7 [.agg (.pair (.sl (.pair tI tV)) (.pair (.sl tIs) tI)), .val tI, .val tI, .val tI, .val tIs] (fun x => x) (fun x => x) (fun _ => rfl)
  (fun _ => none)
  (fun x => .bool true) (by kernel_rfl) (by
    rintro ⟨⟨h_0, ⟨h_1, h_2⟩⟩, i, tick, press, nums, ⟨⟩⟩ hp
    refine fn_of hm (by kernel_rfl) (by kernel_rfl) (T_BarrierChecks h_0 h_1 h_2 i tick press nums) ⟨K_Checks0, trivial⟩ ?_
    try dsimp only at hp
    try dsimp only
    refine ⟨fun _ => rfl, fun d => ⟨⟨by decide, by decide⟩, ⟨by decide, by decide, by decide⟩, ⟨by decide, by decide, by decide⟩, ⟨by decide, by decide, rfl, rfl, rfl, ?_⟩, rfl⟩⟩
    intro w hw
    rcases List.mem_cons.1 hw with rfl | hw
    · exact bigH_ok d
    · rw [List.mem_singleton.1 hw]; exact houK_hOk nums (by decide))
end
end Go.MB
