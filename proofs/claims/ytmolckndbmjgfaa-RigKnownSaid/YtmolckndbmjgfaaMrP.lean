/- Rigs: the chapter's rig. -/
import Derived.Test.YtmolckndbmjgfaaMrO
namespace Go.MR
open Go Go.Sx Go.Proofs
set_option linter.unusedVariables false
set_option linter.unusedSimpArgs false
noncomputable section
def look2 (t : List (List Bool)) (l n : Nat) : Bool := (t.getD l []).getD n false
def stepT (ps : List Int) (bs : List Ban) (N : Nat) (t : List (List Bool)) : List (List Bool) :=
  (List.range 3).map fun l => (List.range N).map fun (n : Nat) => look2 t l n || (safeS ps bs (stS ps n) && (allM (stS ps n).length).any fun m => okM ps bs (stS ps n) m && (nexts (stS ps n) m l).all fun y => look2 t y.2 (numW ps y.1 0).toNat)
def tabD (ps : List Int) (bs : List Ban) (g : List (Int × Int)) (N : Nat) : Nat → List (List Bool)
  | 0 => (List.range 3).map fun l => (List.range N).map fun (n : Nat) => safeS ps bs (stS ps n) && inG (stS ps n) g
  | d + 1 => stepT ps bs N (tabD ps bs g N d)
theorem look2_map {N l n : Nat} (f : Nat → Nat → Bool) (hl : l < 3) (hn : n < N) : look2 ((List.range 3).map fun l => (List.range N).map fun n => f l n) l n = f l n := by
  unfold look2
  have h1 : l < ((List.range 3).map fun l => (List.range N).map fun n => f l n).length := by rw [List.length_map, List.length_range]; exact hl
  have h2 : n < ((List.range N).map fun n => f l n).length := by rw [List.length_map, List.length_range]; exact hn
  have e1 : ((List.range 3).map fun l => (List.range N).map fun n => f l n).getD l [] = (List.range N).map fun n => f l n := by
    rw [List.getD_eq_getElem?_getD, List.getElem?_eq_getElem h1, Option.getD_some, List.getElem_map, List.getElem_range]
  rw [e1, List.getD_eq_getElem?_getD, List.getElem?_eq_getElem h2, Option.getD_some, List.getElem_map, List.getElem_range]
theorem tabD_eq {ps : List Int} {bs : List Ban} (h : RgOk ps bs) (g : List (Int × Int)) {N : Nat} (hN : (N : Int) = prodL ps) : ∀ (d l : Nat) (s : List Int), l ≤ 2 → VS ps s → look2 (tabD ps bs g N d) l (numW ps s 0).toNat = reD ps bs g d l s
  | 0, l, s, hl, hs => by
    obtain ⟨n1, n2, n3⟩ := h.num hs
    rw [tabD, look2_map (fun l (n : Nat) => safeS ps bs (stS ps n) && inG (stS ps n) g) (by omega) (by omega), reD, show (((numW ps s 0).toNat : Nat) : Int) = numW ps s 0 by omega, n1]
  | d + 1, l, s, hl, hs => by
    obtain ⟨n1, n2, n3⟩ := h.num hs
    rw [tabD, stepT, look2_map (fun l (n : Nat) => look2 (tabD ps bs g N d) l n || (safeS ps bs (stS ps n) && (allM (stS ps n).length).any fun m => okM ps bs (stS ps n) m && (nexts (stS ps n) m l).all fun y => look2 (tabD ps bs g N d) y.2 (numW ps y.1 0).toNat)) (by omega) (by omega), reD, show (((numW ps s 0).toNat : Nat) : Int) = numW ps s 0 by omega, n1, tabD_eq h g hN d l s hl hs]
    congr 2
    refine any_congr fun m hm => ?_
    cases ho : okM ps bs s m with
    | false => rfl
    | true =>
      rw [Bool.true_and, Bool.true_and]
      have sl := hs.sl
      have hml := allM_len hm
      unfold okM at ho
      rw [Bool.and_eq_true] at ho
      refine all_congr fun y hy => ?_
      obtain ⟨v1, v2⟩ := nexts_vs h.pb hs.sl (by omega) hs.si (allM_is hm) (waysS_ok ho.1) hy
      exact tabD_eq h g hN d y.2 y.1 (by omega) v1
theorem lst_at {p : Nat → Bool} (hp : ∀ d, p d = true → p (d + 1) = true) {k : Nat} (hk : k < 65) (h1 : p k = true) (h0 : ∀ j, k = j + 1 → p j = false) : lst p 65 = k := by
  have up : ∀ k d : Nat, p d = true → p (d + k) = true := fun k => by
    induction k with
    | zero => exact fun d h => h
    | succ k ih => exact fun d h => hp _ (ih d h)
  rcases lst_spec p 65 with ⟨a, b⟩ | ⟨j, a, b, c, d⟩
  · rw [b k hk] at h1; cases h1
  · rw [a]
    by_cases e : j < k
    · obtain ⟨i, rfl⟩ : ∃ i, k = i + 1 := ⟨k - 1, by omega⟩
      have := up (i - j) j c
      rw [show j + (i - j) = i by omega, h0 i rfl] at this
      cases this
    · by_cases e2 : k < j
      · rw [d k e2] at h1; cases h1
      · omega
theorem tickN_eq {r : Rig} {s : List Int} {g : List (Int × Int)} {losses : Int} (h : askedS r s g losses = 0) : tickN r s g losses = tickD r.1 r.2 g losses.toNat s := by
  obtain ⟨a1, a2, a3, a4, a5⟩ := askedS_ok h
  have hr : RgOk r.1 r.2 := ⟨a2.l2, a2.l4, a2.pb⟩
  have := (cntTk_inv hr g (losses := losses.toNat) (by omega)).2 losses.toNat s (Nat.le_refl _) ⟨a2.sl, a2.si⟩
  rw [show ((losses.toNat : Nat) : Int) = losses by omega] at this
  exact this
def xBs : List Ban := [(0, 1, 1, 1, 1, 2)]
def xG : List (Int × Int) := [(2, 2), (0, 0)]
def xPs : List Int := [3, 3]
def xR : Rig := ([3, 3], xBs)
theorem xOk : RgOk [3, 3] xBs := ⟨by decide, by decide, by kernel_rfl⟩
def xT0 : List (List Bool) := [[false, false, false, false, false, false, true, false, false], [false, false, false, false, false, false, true, false, false], [false, false, false, false, false, false, true, false, false]]
theorem xT0_eq : tabD [3, 3] xBs xG 9 0 = xT0 := by
  kernel_rfl
def xT1 : List (List Bool) := [[false, false, false, true, false, false, true, true, false], [false, false, false, false, false, false, true, false, false], [false, false, false, false, false, false, true, false, false]]
theorem xT1_eq : tabD [3, 3] xBs xG 9 1 = xT1 := by
  rw [tabD, xT0_eq]
  kernel_rfl
def xT2 : List (List Bool) := [[true, false, false, true, false, false, true, true, true], [false, false, false, true, false, false, true, true, false], [false, false, false, false, false, false, true, false, false]]
theorem xT2_eq : tabD [3, 3] xBs xG 9 2 = xT2 := by
  rw [tabD, xT1_eq]
  kernel_rfl
def xT3 : List (List Bool) := [[true, true, false, true, false, false, true, true, true], [true, false, false, true, false, false, true, true, true], [false, false, false, true, false, false, true, true, false]]
theorem xT3_eq : tabD [3, 3] xBs xG 9 3 = xT3 := by
  rw [tabD, xT2_eq]
  kernel_rfl
def xT4 : List (List Bool) := [[true, true, true, true, false, false, true, true, true], [true, true, false, true, false, false, true, true, true], [true, false, false, true, false, false, true, true, true]]
theorem xT4_eq : tabD [3, 3] xBs xG 9 4 = xT4 := by
  rw [tabD, xT3_eq]
  kernel_rfl
def xT5 : List (List Bool) := [[true, true, true, true, false, false, true, true, true], [true, true, true, true, false, false, true, true, true], [true, true, false, true, false, false, true, true, true]]
theorem xT5_eq : tabD [3, 3] xBs xG 9 5 = xT5 := by
  rw [tabD, xT4_eq]
  kernel_rfl
def xT6 : List (List Bool) := [[true, true, true, true, false, false, true, true, true], [true, true, true, true, false, false, true, true, true], [true, true, true, true, false, false, true, true, true]]
theorem xT6_eq : tabD [3, 3] xBs xG 9 6 = xT6 := by
  rw [tabD, xT5_eq]
  kernel_rfl
theorem x_tick {l : Nat} {s : List Int} {k : Nat} (hl : l ≤ 2) (hs : VS [3, 3] s) (hk : k < 65) (h1 : look2 (tabD [3, 3] xBs xG 9 k) l (numW [3, 3] s 0).toNat = true) (h0 : ∀ j, k = j + 1 → look2 (tabD [3, 3] xBs xG 9 j) l (numW [3, 3] s 0).toNat = false) : tickD [3, 3] xBs xG l s = k := by
  unfold tickD
  refine lst_at (p := fun d => reD [3, 3] xBs xG d l s) (fun d h => reD_mono d h) hk ?_ fun j e => ?_
  · rw [tabD_eq xOk xG (N := 9) (by kernel_rfl) k l s hl hs] at h1
    exact h1
  · have := h0 j e
    rw [tabD_eq xOk xG (N := 9) (by kernel_rfl) j l s hl hs] at this
    exact this
theorem T_shown (_ : Unit) : fnTree (P := P) [] (lpOf []) Try.f67 (encL 0 [] ()) =
  Tree.leaf (SV.agg [SV.sl (Ty.int IntKind.i64) [(3 : Int), (3 : Int)], SV.sl (Ty.pair (Ty.int IntKind.i64) (Ty.pair (Ty.int IntKind.i64) (Ty.pair (Ty.int IntKind.i64) (Ty.pair (Ty.int IntKind.i64) (Ty.pair (Ty.int IntKind.i64) (Ty.int IntKind.i64)))))) [((0 : Int), (1 : Int), (1 : Int), (1 : Int), (1 : Int), (2 : Int))]]) := by kernel_rfl
def c_shown : PC P := PC.of (α := Unit) 67 [] (fun x => x) (fun x => x) (fun _ => rfl)
  (fun _ => none)
  (fun _ => .agg [.sl tI xPs, .sl tBan xBs]) (by kernel_rfl) (by
    rintro ⟨⟩ hp
    refine fn_of hm (by kernel_rfl) (by kernel_rfl) (T_shown ()) trivial ?_
    exact rfl)
theorem T_aim (_ : Unit) : fnTree (P := P) [] (lpOf []) Try.f68 (encL 0 [] ()) =
  Tree.leaf (SV.sl (Ty.pair (Ty.int IntKind.i64) (Ty.int IntKind.i64)) [((2 : Int), (2 : Int)), ((0 : Int), (0 : Int))]) := by kernel_rfl
def c_aim : PC P := PC.of (α := Unit) 68 [] (fun x => x) (fun x => x) (fun _ => rfl)
  (fun _ => none)
  (fun _ => .sl tPart xG) (by kernel_rfl) (by
    rintro ⟨⟩ hp
    refine fn_of hm (by kernel_rfl) (by kernel_rfl) (T_aim ()) trivial ?_
    exact rfl)
theorem T_awake (_ : Unit) : fnTree (P := P) [c_shown.gc, c_aim.gc, c_Allowed.gc, c_Ticks.gc] (lpOf []) Try.f23 (encL 0 [] ()) =
  Tree.need ((↑(List.length [(1 : Int), (1 : Int)]) : Int) < (2 : Int) ^ (62 : Nat)) (Tree.cond true (Tree.cond true (Tree.cond true (Tree.leaf (SV.bool true)) (Tree.leaf (SV.bool false))) (Tree.leaf (SV.bool false))) (Tree.leaf (SV.bool false))) := by kernel_rfl
def c_awake : PC P := PC.of (α := Unit) 23 [] (fun x => x) (fun x => x) (fun _ => rfl)
  (fun _ => none)
  (fun _ => .bool true) (by kernel_rfl) (by
    rintro ⟨⟩ hp
    refine fn_of hm (by kernel_rfl) (by kernel_rfl) (T_awake ()) trivial ?_
    exact ⟨by decide, fun _ => ⟨fun _ => ⟨fun _ => rfl, fun c => by cases c⟩, fun c => by cases c⟩, fun c => by cases c⟩)
end
end Go.MR
