/- RigShears. -/
import Derived.Test.YtmolckndbmjgfaaMrAk
import Derived.Test.YtmolckndbmjgfaaMrP
namespace Go.MR
open Go Go.Sx Go.Proofs
open Go.MP (c_kPath c_kStr pr_kPath V_kPath S_kPath nextS_rng lenS lenS_nn strK strK_ok tTs Tb tT)
set_option linter.unusedVariables false
set_option linter.unusedSimpArgs false
noncomputable section
abbrev tRam : Ty := .pair tI (.pair tI tI)
abbrev tSpn : Ty := .pair tI tI
abbrev tStr : Ty := Go.MP.tTs
theorem shearS_len (x : Int × Int × Int) (l : List Tb) (hoist places ram : Int) (c : Int × Int) : ((shearS x l hoist places ram c).length : Int) < 2 ^ 62 := by
  unfold shearS
  split
  · decide
  · rename_i h
    have : places ≤ 8 := by
      unfold ramE at h
      split at h
      · omega
      split at h
      · omega
      split at h
      · omega
      split at h
      · omega
      omega
    have := shP_len (nr := nrS x.1 x.2.1 x.2.2 l) (mk := mkB hoist ram c.1 c.2) (n := places) (places + 1).toNat 0 (-1) []
    rw [List.length_nil] at this
    omega
def L_RigShearsL : Lay := { slots := [(2, .val tI), (3, .val tI), (4, .val tI), (7, .ptr 8083 0), (12, .ptr 13083 0), (19, .row 78 tTs), (20, .val tI)], boxes := [(8083, [.val tI, .val tI, .val tI]), (13083, [.val tI, .val tI])] }
def L_RigShearsL_0 : Lay := { slots := [(14, .val .bool)] }
def L_RigShearsL_1 : Lay := { slots := [] }
def X_RigShearsL : Exit → St → Option Lay
  | .ret, _ => some L_RigShearsL_0
  | .exit 0, _ => some L_RigShearsL_1
  | _, _ => none
abbrev C_RigShearsL : Code := loopC (bodyOf Try.f13) 0
theorem B_RigShearsL (hoist places ram : Int) (ss : List (List Tb)) (k f st nr lo hi : Int) : loopBodyA (P := P) [c_Shear.gc, c_rShear.gc, c_SameBans.gc] (lpOf []) [] 83 noU (inner C_RigShearsL) L_RigShearsL X_RigShearsL (α := Int × Int × Int × Unit × Unit × List (List Tb) × Int × Int × Int × Int × Int × Int × Unit) (fun x => x) (fun x => x) (hoist, places, ram, (), (), ss, k, f, st, nr, lo, hi, ()) =
  Tree.cond (decide (k < (2 : Int))) (Tree.need ((0 : Int) ≤ k ∧ k < (↑(List.length ss) : Int)) (Tree.need (Int.toNat k < List.length ss) (Tree.need ((↑(List.length (List.getD ss (Int.toNat k) [])) : Int) < (2 : Int) ^ (62 : Nat)) (Tree.need ((0 : Int) ≤ k ∧ k < (↑(List.length ss) : Int)) (Tree.need (Int.toNat k < List.length ss) (Tree.need ((↑(List.length (shearS (f, st, nr) (List.getD ss (Int.toNat k) []) hoist places ram (lo, hi))) : Int) < (2 : Int) ^ (62 : Nat)) (Tree.cond (!decide (shearS (f, st, nr) (List.getD ss (Int.toNat k) []) hoist places ram (lo, hi) = shearS (f, st, nr) (List.getD ss (Int.toNat k) []) hoist places ram (lo, hi))) (Tree.leaf (Sum.inr (Exit.ret, Lay.st L_RigShearsL_0 noU (false, PUnit.unit)))) (Tree.cond (ramE (f, st, nr) (List.getD ss (Int.toNat k) []) hoist places ram (lo, hi) != ramE (f, st, nr) (List.getD ss (Int.toNat k) []) hoist places ram (lo, hi)) (Tree.leaf (Sum.inr (Exit.ret, Lay.st L_RigShearsL_0 noU (false, PUnit.unit)))) (Tree.leaf (Sum.inl (hoist, places, ram, PUnit.unit, PUnit.unit, ss, IntKind.wrap IntKind.i64 (k + (1 : Int)), f, st, nr, lo, hi, PUnit.unit))))))))))) (Tree.leaf (Sum.inr (Exit.exit (0 : Nat), Lay.st L_RigShearsL_1 noU PUnit.unit))) := by kernel_rfl
def inv_RigShearsL : Int × Int × Int × Unit × Unit × List (List Tb) × Int × Int × Int × Int × Int × Int × Unit → Prop := fun (hoist, places, ram, (), (), ss, k, f, st, nr, lo, hi, ()) => 0 ≤ k ∧ k ≤ 2 ∧ ss.length = 2 ∧ ∀ x ∈ ss, (x.length : Int) < 2 ^ 62
def O_RigShearsL : Int × Int × Int × Unit × Unit × List (List Tb) × Int × Int × Int × Int × Int × Int × Unit → Tree (Exit × St) := fun (hoist, places, ram, (), (), ss, k, f, st, nr, lo, hi, ()) => (.leaf (.exit 0, L_RigShearsL_1.st noU ()))
def R_RigShearsL : LRun := runOf 83 L_RigShearsL (fun x => x) (inv_RigShearsL) (O_RigShearsL)
theorem K_RigShearsL : LoopOk P [] 83 none noU C_RigShearsL (R_RigShearsL) := by
  refine loop_of hm (cx := [c_Shear.gc, c_rShear.gc, c_SameBans.gc]) [] (xl := X_RigShearsL) (α := Int × Int × Int × Unit × Unit × List (List Tb) × Int × Int × Int × Int × Int × Int × Unit) (fun x => x) (fun (hoist, places, ram, (), (), ss, k, f, st, nr, lo, hi, ()) => (2 - k).toNat) (fun _ => rfl) (by kernel_rfl) (by kernel_rfl) ?_ (by kernel_rfl) trivial ?_
  · intro e S L' h
    unfold X_RigShearsL at h
    split at h <;> first | (cases h; done) | (cases h; kernel_rfl) | (rcases bif_some h with h | h <;> cases h <;> kernel_rfl)
  · rintro ⟨hoist, places, ram, ⟨⟩, ⟨⟩, ss, k, f, st, nr, lo, hi, ⟨⟩⟩ hinv Q hQ
    refine hold_of_eq (B_RigShearsL hoist places ram ss k f st nr lo hi) ?_
    obtain ⟨h0, h1, h2, h4⟩ := hinv
    rw [W_id (n := k + 1) (by omega) (by omega)]
    refine ⟨fun c1 => ?_, fun c1 => hQ⟩
    have c1 := of_decide_eq_true c1
    have i1 : 0 ≤ k ∧ k < (ss.length : Int) := by omega
    have i2 : k.toNat < ss.length := by omega
    have i5 : ((ss.getD k.toNat []).length : Int) < 2 ^ 62 := h4 _ (getD_mem (by omega))
    have e1 : ∀ z : Int, (z != z) = false := fun z => by simp
    rw [e1]
    exact ⟨i1, i2, i5, i1, i2, shearS_len _ _ _ _ _ _, fun h => by simp at h, fun _ => ⟨fun h => (by cases h), fun _ => ⟨⟨⟨by omega, by omega, h2, h4⟩, by show (2 - (k + 1)).toNat < (2 - k).toNat; omega⟩, hQ⟩⟩⟩
theorem T_RigShears (s0_0 s0_1 s0_2 : Int) (s1_0 : List Tb) (hoist places ram s5_0 s5_1 : Int) (s6 : List Int) : fnTree (P := P) [c_awake.gc, c_NewRing.gc, c_kPath.gc, c_kStr.gc] (lpOf [(0, R_RigShearsL)]) Try.f13 (encL 0 [.agg tV, .agg tTs, .val tI, .val tI, .val tI, .agg tPart, .val tIs] ((s0_0, (s0_1, s0_2)), s1_0, hoist, places, ram, (s5_0, s5_1), s6, ())) =
  Tree.cond (decide ((↑(List.length s1_0) : Int) > (10 : Int))) (Tree.leaf (SV.bool true)) (Tree.need (pr_kPath ((), (6 : Int), s6, (0 : Int), ())) (Tree.need ((0 : Int) ≤ (V_kPath ((), (6 : Int), s6, (0 : Int), ())).snd ∧ (V_kPath ((), (6 : Int), s6, (0 : Int), ())).snd ≤ (400000000 : Int)) (Tree.need (inv_RigShearsL (hoist, places, ram, (), (), [s1_0, (strK s6 (lenS (V_kPath ((), (6 : Int), s6, (0 : Int), ())).fst) (Int.toNat ((1 : Int) + MP.nextS s6 (V_kPath ((), (6 : Int), s6, (0 : Int), ())).snd (4 : Int))) ((V_kPath ((), (6 : Int), s6, (0 : Int), ())).snd + (1 : Int)) []).fst], (0 : Int), s0_0, s0_1, s0_2, s5_0, s5_1, ())) (Tree.leaf (SV.bool true))))) := by kernel_rfl
def c_RigShears : PC P := PC.of (α := V × List Tb × Int × Int × Int × (Int × Int) × List Int × Unit) 13 [.agg tV, .agg tTs, .val tI, .val tI, .val tI, .agg tPart, .val tIs] (fun x => x) (fun x => x) (fun _ => rfl)
  (fun _ => none)
  (fun x => .bool true) (by kernel_rfl) (by
    rintro ⟨⟨s0_0, ⟨s0_1, s0_2⟩⟩, s1_0, hoist, places, ram, ⟨s5_0, s5_1⟩, s6, ⟨⟩⟩ hp
    refine fn_of hm (by kernel_rfl) (by kernel_rfl) (T_RigShears s0_0 s0_1 s0_2 s1_0 hoist places ram s5_0 s5_1 s6) ⟨K_RigShearsL, trivial⟩ ?_
    try dsimp only at hp
    try dsimp only
    have hpr : pr_kPath ((), (6 : Int), s6, (0 : Int), ()) := ⟨by decide, by decide, by decide, by decide⟩
    have hS := S_kPath _ hpr
    generalize V_kPath ((), (6 : Int), s6, (0 : Int), ()) = b at *
    obtain ⟨⟨⟨x, y, z⟩, pl⟩, k1⟩ := b
    obtain ⟨hc, h1, h2, _⟩ := hS
    dsimp only at hc h1 h2 ⊢
    have n0 := nextS_rng (l := s6) (k := k1) (n := 4) (by omega) (by decide)
    have hstr := strK_ok (l := s6) (n := lenS ((x, y, z), pl)) (1 + Go.MP.nextS s6 k1 4).toNat (k1 + 1) [] (by omega) ⟨fun t ht => (by cases ht), lenS_nn _, by decide, fun t ht => (by cases ht)⟩
    generalize strK s6 (lenS ((x, y, z), pl)) (1 + Go.MP.nextS s6 k1 4).toNat (k1 + 1) [] = st' at *
    obtain ⟨s, k2⟩ := st'
    obtain ⟨_, b, _, _⟩ := hstr
    dsimp only at b ⊢
    rw [List.length_nil] at b
    refine ⟨fun _ => rfl, fun d => ⟨hpr, ⟨by omega, by omega⟩, ⟨by decide, by decide, rfl, ?_⟩, rfl⟩⟩
    have d := of_decide_eq_false d
    intro w hw
    rcases List.mem_cons.1 hw with rfl | hw
    · omega
    · rw [List.mem_singleton.1 hw]; omega)
end
end Go.MR
