/- RigKnown: the examples of the chapter. -/
import Derived.Test.YtmolckndbmjgfaaMrZ
import Derived.Test.YtmolckndbmjgfaaMrV
import Derived.Test.YtmolckndbmjgfaaMrAe
import Derived.Test.YtmolckndbmjgfaaMrAk
import Derived.Test.YtmolckndbmjgfaaMrBc
namespace Go.MR
open Go Go.Sx Go.Proofs
set_option linter.unusedVariables false
set_option linter.unusedSimpArgs false
noncomputable section
theorem xS02 : VS [3, 3] [0, 2] := ⟨rfl, by kernel_rfl⟩
theorem x_ticksOf {l : Nat} {k : Nat} (hl : l ≤ 2) (hk : k < 65) (h1 : look2 (tabD [3, 3] xBs xG 9 k) l (numW [3, 3] [0, 2] 0).toNat = true) (h0 : ∀ j, k = j + 1 → look2 (tabD [3, 3] xBs xG 9 j) l (numW [3, 3] [0, 2] 0).toNat = false) (ha : askedS xR [0, 2] xG (l : Int) = 0) :
    tickN xR [0, 2] xG (l : Int) = (k : Int) ∧ ticksS xR [0, 2] xG (l : Int) = ((k : Int), 0) := by
  have ht : tickN xR [0, 2] xG (l : Int) = (k : Int) := by
    rw [tickN_eq ha, Int.toNat_natCast]
    exact x_tick hl xS02 hk h1 h0
  refine ⟨ht, ?_⟩
  unfold ticksS
  rw [ha, if_neg (by decide), ht, if_neg (by omega), W_id (by omega) (by omega)]
theorem ask0 : askedS xR [0, 2] xG ((0 : Nat) : Int) = 0 := by kernel_rfl
theorem ask2 : askedS xR [0, 2] xG ((2 : Nat) : Int) = 0 := by kernel_rfl
theorem ticks0 : tickN xR [0, 2] xG ((0 : Nat) : Int) = ((4 : Nat) : Int) ∧ ticksS xR [0, 2] xG ((0 : Nat) : Int) = (((4 : Nat) : Int), 0) := by
  have h1 : look2 (tabD [3, 3] xBs xG 9 4) 0 (numW [3, 3] [0, 2] 0).toNat = true := by rw [xT4_eq]; kernel_rfl
  have h0 : look2 (tabD [3, 3] xBs xG 9 3) 0 (numW [3, 3] [0, 2] 0).toNat = false := by rw [xT3_eq]; kernel_rfl
  exact x_ticksOf (k := 4) (by decide) (by decide) h1 (fun j e => by
    have : j = 3 := by omega
    subst this
    exact h0) ask0
theorem ticks2 : tickN xR [0, 2] xG ((2 : Nat) : Int) = ((6 : Nat) : Int) ∧ ticksS xR [0, 2] xG ((2 : Nat) : Int) = (((6 : Nat) : Int), 0) := by
  have h1 : look2 (tabD [3, 3] xBs xG 9 6) 2 (numW [3, 3] [0, 2] 0).toNat = true := by rw [xT6_eq]; kernel_rfl
  have h0 : look2 (tabD [3, 3] xBs xG 9 5) 2 (numW [3, 3] [0, 2] 0).toNat = false := by rw [xT5_eq]; kernel_rfl
  exact x_ticksOf (k := 6) (by decide) (by decide) h1 (fun j e => by
    have : j = 5 := by omega
    subst this
    exact h0) ask2
theorem find_congr {α : Type} {p q : α → Bool} : ∀ {l : List α}, (∀ x ∈ l, p x = q x) → l.find? p = l.find? q
  | [], _ => rfl
  | x :: l, h => by
    rw [List.find?_cons, List.find?_cons, h x (by simp), find_congr (fun y hy => h y (List.mem_cons_of_mem _ hy))]
def takeX (m : List Int) : Bool := okM [3, 3] xBs [0, 2] m && (nexts [0, 2] m 0).all fun y => look2 xT3 y.2 (numW [3, 3] y.1 0).toNat
theorem best0 : bestS [3, 3] xBs (cntTk [3, 3] xBs xG ((0 : Nat) : Int)) [0, 2] ((0 : Nat) : Int) ((3 : Nat) : Int) = [0, -1] := by
  unfold bestS firstM
  rw [find_congr (q := takeX) fun m hm => by
    rw [take_full xOk (by decide) xS02 hm (by decide)]
    unfold takeX
    cases ho : okM [3, 3] xBs [0, 2] m with
    | false => rfl
    | true =>
      rw [Bool.true_and, Bool.true_and]
      unfold okM at ho
      rw [Bool.and_eq_true] at ho
      refine all_congr fun y hy => ?_
      obtain ⟨v1, v2⟩ := nexts_vs xOk.pb xS02.sl (by have := allM_len hm; simpa using this) xS02.si (allM_is hm) (waysS_ok ho.1) hy
      rw [← xT3_eq]
      exact (tabD_eq xOk xG (N := 9) (by kernel_rfl) 3 y.2 y.1 (by omega) v1).symm]
  kernel_rfl
theorem next0 : nextS xR [0, 2] xG ((0 : Nat) : Int) = ([0, -1], 0) := by
  unfold nextS
  rw [ask0, if_neg (by decide), ticks0.1, if_neg (by decide), if_neg (by decide)]
  rw [show IntKind.wrap IntKind.i8 (((4 : Nat) : Int) - 1) = ((3 : Nat) : Int) by kernel_rfl]
  rw [show bestS xR.1 xR.2 (cntTk xR.1 xR.2 xG ((0 : Nat) : Int)) [0, 2] ((0 : Nat) : Int) ((3 : Nat) : Int) = [0, -1] from best0]
theorem x_tk0 {s : List Int} {k : Nat} (hs : inR s [3, 3] = true) (hl : s.length = 2) (hk : k < 65) (h1 : look2 (tabD [3, 3] xBs xG 9 k) 0 (numW [3, 3] s 0).toNat = true) (h0 : ∀ j, k = j + 1 → look2 (tabD [3, 3] xBs xG 9 j) 0 (numW [3, 3] s 0).toNat = false) {a b : Int} (hsf : safeS [3, 3] xBs s = true) :
    accW ([3, 3], xBs) xG 0 (a, b) s = (maxI a (k : Int), b) := by
  have ht : tickD [3, 3] xBs xG 0 s = (k : Int) := x_tick (by decide) ⟨hl, hs⟩ hk h1 h0
  unfold accW
  dsimp only
  rw [if_neg (by rw [hsf]; simp), ht, W_id (by omega) (by omega), if_neg (by omega)]
theorem x_no {s : List Int} {x : Int × Int} (hsf : safeS [3, 3] xBs s = false) : accW ([3, 3], xBs) xG 0 x s = x := by
  unfold accW
  rw [if_pos hsf]
theorem x_s00 (x y : Int) : accW ([3, 3], xBs) xG 0 (x, y) [0, 0] = (maxI x ((2 : Nat) : Int), y) := by
  have h1 : look2 (tabD [3, 3] xBs xG 9 2) 0 (numW [3, 3] [0, 0] 0).toNat = true := by rw [xT2_eq]; kernel_rfl
  have h0 : look2 (tabD [3, 3] xBs xG 9 1) 0 (numW [3, 3] [0, 0] 0).toNat = false := by rw [xT1_eq]; kernel_rfl
  have hr : inR [0, 0] [3, 3] = true := by kernel_rfl
  have hs : safeS [3, 3] xBs [0, 0] = true := by kernel_rfl
  exact x_tk0 (k := 2) hr rfl (by decide) h1 (fun j e => by
    have : j = 1 := by omega
    subst this
    exact h0) hs
theorem x_s01 (x y : Int) : accW ([3, 3], xBs) xG 0 (x, y) [0, 1] = (maxI x ((3 : Nat) : Int), y) := by
  have h1 : look2 (tabD [3, 3] xBs xG 9 3) 0 (numW [3, 3] [0, 1] 0).toNat = true := by rw [xT3_eq]; kernel_rfl
  have h0 : look2 (tabD [3, 3] xBs xG 9 2) 0 (numW [3, 3] [0, 1] 0).toNat = false := by rw [xT2_eq]; kernel_rfl
  have hr : inR [0, 1] [3, 3] = true := by kernel_rfl
  have hs : safeS [3, 3] xBs [0, 1] = true := by kernel_rfl
  exact x_tk0 (k := 3) hr rfl (by decide) h1 (fun j e => by
    have : j = 2 := by omega
    subst this
    exact h0) hs
theorem x_s02 (x y : Int) : accW ([3, 3], xBs) xG 0 (x, y) [0, 2] = (maxI x ((4 : Nat) : Int), y) := by
  have h1 : look2 (tabD [3, 3] xBs xG 9 4) 0 (numW [3, 3] [0, 2] 0).toNat = true := by rw [xT4_eq]; kernel_rfl
  have h0 : look2 (tabD [3, 3] xBs xG 9 3) 0 (numW [3, 3] [0, 2] 0).toNat = false := by rw [xT3_eq]; kernel_rfl
  have hr : inR [0, 2] [3, 3] = true := by kernel_rfl
  have hs : safeS [3, 3] xBs [0, 2] = true := by kernel_rfl
  exact x_tk0 (k := 4) hr rfl (by decide) h1 (fun j e => by
    have : j = 3 := by omega
    subst this
    exact h0) hs
theorem x_s10 (x y : Int) : accW ([3, 3], xBs) xG 0 (x, y) [1, 0] = (maxI x ((1 : Nat) : Int), y) := by
  have h1 : look2 (tabD [3, 3] xBs xG 9 1) 0 (numW [3, 3] [1, 0] 0).toNat = true := by rw [xT1_eq]; kernel_rfl
  have h0 : look2 (tabD [3, 3] xBs xG 9 0) 0 (numW [3, 3] [1, 0] 0).toNat = false := by rw [xT0_eq]; kernel_rfl
  have hr : inR [1, 0] [3, 3] = true := by kernel_rfl
  have hs : safeS [3, 3] xBs [1, 0] = true := by kernel_rfl
  exact x_tk0 (k := 1) hr rfl (by decide) h1 (fun j e => by
    have : j = 0 := by omega
    subst this
    exact h0) hs
theorem x_s20 (x y : Int) : accW ([3, 3], xBs) xG 0 (x, y) [2, 0] = (maxI x ((0 : Nat) : Int), y) := by
  have h1 : look2 (tabD [3, 3] xBs xG 9 0) 0 (numW [3, 3] [2, 0] 0).toNat = true := by rw [xT0_eq]; kernel_rfl
  have hr : inR [2, 0] [3, 3] = true := by kernel_rfl
  have hs : safeS [3, 3] xBs [2, 0] = true := by kernel_rfl
  exact x_tk0 (k := 0) hr rfl (by decide) h1 (fun j e => by
    omega) hs
theorem x_s21 (x y : Int) : accW ([3, 3], xBs) xG 0 (x, y) [2, 1] = (maxI x ((1 : Nat) : Int), y) := by
  have h1 : look2 (tabD [3, 3] xBs xG 9 1) 0 (numW [3, 3] [2, 1] 0).toNat = true := by rw [xT1_eq]; kernel_rfl
  have h0 : look2 (tabD [3, 3] xBs xG 9 0) 0 (numW [3, 3] [2, 1] 0).toNat = false := by rw [xT0_eq]; kernel_rfl
  have hr : inR [2, 1] [3, 3] = true := by kernel_rfl
  have hs : safeS [3, 3] xBs [2, 1] = true := by kernel_rfl
  exact x_tk0 (k := 1) hr rfl (by decide) h1 (fun j e => by
    have : j = 0 := by omega
    subst this
    exact h0) hs
theorem x_s22 (x y : Int) : accW ([3, 3], xBs) xG 0 (x, y) [2, 2] = (maxI x ((2 : Nat) : Int), y) := by
  have h1 : look2 (tabD [3, 3] xBs xG 9 2) 0 (numW [3, 3] [2, 2] 0).toNat = true := by rw [xT2_eq]; kernel_rfl
  have h0 : look2 (tabD [3, 3] xBs xG 9 1) 0 (numW [3, 3] [2, 2] 0).toNat = false := by rw [xT1_eq]; kernel_rfl
  have hr : inR [2, 2] [3, 3] = true := by kernel_rfl
  have hs : safeS [3, 3] xBs [2, 2] = true := by kernel_rfl
  exact x_tk0 (k := 2) hr rfl (by decide) h1 (fun j e => by
    have : j = 1 := by omega
    subst this
    exact h0) hs
theorem x_n11 (x : Int × Int) : accW ([3, 3], xBs) xG 0 x [1, 1] = x := x_no (by kernel_rfl)
theorem x_n12 (x : Int × Int) : accW ([3, 3], xBs) xG 0 x [1, 2] = x := x_no (by kernel_rfl)
theorem x_all : ((List.range' 0 9).map fun n : Nat => stS [3, 3] n) = [[0, 0], [0, 1], [0, 2], [1, 0], [1, 1], [1, 2], [2, 0], [2, 1], [2, 2]] := by kernel_rfl
theorem x_fold : ((List.range' 0 9).map fun n : Nat => stS [3, 3] n).foldl (accW ([3, 3], xBs) xG 0) (0, 0) = (4, 0) := by
  rw [x_all]
  simp only [List.foldl_cons, List.foldl_nil]
  rw [x_s00]
  rw [x_s01]
  rw [x_s02]
  rw [x_s10]
  rw [x_n11, x_n12]
  rw [x_s20]
  rw [x_s21]
  rw [x_s22]
  decide
theorem ready0 : readyS xR xG ((0 : Nat) : Int) = (4, 0, 0) := by
  have h1 : goalS xR xG = 0 := by kernel_rfl
  have h2 : wi ((0 : Nat) : Int) 0 2 = true := by kernel_rfl
  have h3 : (manyW xR.1 1).toNat = 9 := by kernel_rfl
  have h4 := rdyR_fold xOk xG (losses := 0) (by decide) 9 0 (0, 0) (by decide)
  rw [x_fold] at h4
  unfold readyS
  rw [h1, if_neg (by decide), h2, if_neg (by decide), h3]
  have h4' : rdyR (cntSf xR.1 xR.2 xG) (cntTk xR.1 xR.2 xG ((0 : Nat) : Int)) ((0 : Nat) : Int) 9 0 (0, 0) = (4, 0) := h4
  rw [h4']
def tkX (l : Int) : Int × Int := if l = 0 then (4, 0) else (6, 0)
def c_TicksX : PC P := PC.of (α := Rig × List Int × List (Int × Int) × Int × Unit) 22 [.agg tRig, .val tIs, .val (.sl tPart), .val tI] (fun x => x) (fun x => x) (fun _ => rfl)
  (fun x => some (x = (xR, [0, 2], xG, 0, ()) ∨ x = (xR, [0, 2], xG, 2, ()))) (fun x => .tup [.int .i64 (tkX x.2.2.2.1).1, .int .i64 (tkX x.2.2.2.1).2]) (by kernel_rfl) (fun a h => by
    have h' : a = (xR, [0, 2], xG, 0, ()) ∨ a = (xR, [0, 2], xG, 2, ()) := h
    have := c_Ticks.ok a trivial
    rcases h' with rfl | rfl
    · rw [show SV.tup [.int .i64 (tkX 0).1, .int .i64 (tkX 0).2] = SV.tup [.int .i64 (ticksS xR [0, 2] xG 0).1, .int .i64 (ticksS xR [0, 2] xG 0).2] by rw [show ticksS xR [0, 2] xG 0 = (4, 0) from ticks0.2]; rfl]
      exact this
    · rw [show SV.tup [.int .i64 (tkX 2).1, .int .i64 (tkX 2).2] = SV.tup [.int .i64 (ticksS xR [0, 2] xG 2).1, .int .i64 (ticksS xR [0, 2] xG 2).2] by rw [show ticksS xR [0, 2] xG 2 = (6, 0) from ticks2.2]; rfl]
      exact this)
def c_NextX : PC P := PC.of (α := Rig × List Int × List (Int × Int) × Int × Unit) 44 [.agg tRig, .val tIs, .val (.sl tPart), .val tI] (fun x => x) (fun x => x) (fun _ => rfl)
  (fun x => some (x = (xR, [0, 2], xG, 0, ()))) (fun x => .tup [.sl tI ([0, -1] : List Int), .int .i64 0]) (by kernel_rfl) (fun a h => by
    have h' : a = (xR, [0, 2], xG, 0, ()) := h
    have := c_Next.ok a trivial
    subst h'
    rw [show SV.tup [.sl tI ([0, -1] : List Int), .int .i64 0] = SV.tup [.sl tI (nextS xR [0, 2] xG 0).1, .int .i64 (nextS xR [0, 2] xG 0).2] by rw [show nextS xR [0, 2] xG 0 = ([0, -1], 0) from next0]]
    exact this)
def c_ReadyX : PC P := PC.of (α := Rig × List (Int × Int) × Int × Unit) 48 [.agg tRig, .val (.sl tPart), .val tI] (fun x => x) (fun x => x) (fun _ => rfl)
  (fun x => some (x = (xR, xG, 0, ()))) (fun x => .tup [.int .i64 4, .int .i64 0, .int .i64 0]) (by kernel_rfl) (fun a h => by
    have h' : a = (xR, xG, 0, ()) := h
    have := c_Ready.ok a trivial
    subst h'
    rw [show SV.tup [.int .i64 4, .int .i64 0, .int .i64 0] = SV.tup [.int .i64 (readyS xR xG 0).1, .int .i64 (readyS xR xG 0).2.1, .int .i64 (readyS xR xG 0).2.2] by rw [show readyS xR xG 0 = (4, 0, 0) from ready0]]
    exact this)
theorem T_lenT (n : Int) : fnTree (P := P) [] (lpOf []) Try.f69 (encL 0 [.val tI] (n, ())) =
  Tree.leaf (SV.agg [SV.sl (Ty.pair (Ty.int IntKind.i64) (Ty.pair (Ty.int IntKind.i64) (Ty.pair (Ty.int IntKind.i64) (Ty.pair (Ty.int IntKind.i64) (Ty.pair (Ty.int IntKind.i64) (Ty.pair (Ty.int IntKind.i64) (Ty.pair (Ty.int IntKind.i64) (Ty.pair (Ty.int IntKind.i64) (Ty.int IntKind.i64))))))))) [(n, (1000 : Int), (300000 : Int), (10 : Int), (13 : Int), (1073741824 : Int), (1073741824 : Int), (0 : Int), (0 : Int))]]) := by kernel_rfl
def c_lenT : PC P := PC.of (α := Int × Unit) 69 [.val tI] (fun x => x) (fun x => x) (fun _ => rfl)
  (fun _ => none)
  (fun x => .agg [.sl Go.MP.tT ([(x.1, 1000, 300000, 10, 13, 1073741824, 1073741824, 0, 0)] : List Go.MP.Tb)]) (by kernel_rfl) (by
    rintro ⟨n, ⟨⟩⟩ hp
    refine fn_of hm (by kernel_rfl) (by kernel_rfl) (T_lenT n) trivial ?_
    try dsimp only at hp
    try dsimp only
    exact rfl)
theorem T_RigKnown (_ : Unit) : collapse (fnTree (P := P) [c_awake.gc, c_shown.gc, c_aim.gc, c_State.gc, c_Banned.gc, c_Allowed.gc, c_Step.gc, c_SameInts.gc, c_TicksX.gc, c_NextX.gc, c_ReadyX.gc, c_Merge.gc, c_Shear.gc, c_lenT.gc, c_SameBans.gc] (lpOf []) Try.f17 (encL 0 [] ())) =
  Tree.need ((↑(List.length [(1 : Int), (0 : Int)]) : Int) < (2 : Int) ^ (62 : Nat)) (Tree.need ((↑(List.length [(1 : Int), (-1 : Int)]) : Int) < (2 : Int) ^ (62 : Nat)) (Tree.need ((↑(List.length [(1 : Int), (0 : Int)]) : Int) < (2 : Int) ^ (62 : Nat)) (Tree.need ((↑(List.length [(1 : Int), (0 : Int)]) : Int) < (2 : Int) ^ (62 : Nat) ∧ (↑(List.length [(0 : Int)]) : Int) < (2 : Int) ^ (62 : Nat)) (Tree.need ((↑(List.length [(1 : Int), (0 : Int)]) : Int) < (2 : Int) ^ (62 : Nat) ∧ (↑(0 : Nat) : Int) < (2 : Int) ^ (62 : Nat)) (Tree.need ((↑(List.length (stepS (xPs, xBs) [(0 : Int), (0 : Int)] [(1 : Int), (0 : Int)] [(0 : Int)]).fst) : Int) < (2 : Int) ^ (62 : Nat)) (Tree.need ((↑(List.length (stepS (xPs, xBs) [(0 : Int), (0 : Int)] [(1 : Int), (0 : Int)] []).fst) : Int) < (2 : Int) ^ (62 : Nat)) (Tree.need (((xPs, xBs), [(0 : Int), (2 : Int)], xG, (0 : Int), ()) = (xR, [(0 : Int), (2 : Int)], xG, (0 : Int), ()) ∨ ((xPs, xBs), [(0 : Int), (2 : Int)], xG, (0 : Int), ()) = (xR, [(0 : Int), (2 : Int)], xG, (2 : Int), ())) (Tree.need (((xPs, xBs), [(0 : Int), (2 : Int)], xG, (2 : Int), ()) = (xR, [(0 : Int), (2 : Int)], xG, (0 : Int), ()) ∨ ((xPs, xBs), [(0 : Int), (2 : Int)], xG, (2 : Int), ()) = (xR, [(0 : Int), (2 : Int)], xG, (2 : Int), ())) (Tree.need (((xPs, xBs), [(0 : Int), (2 : Int)], xG, (0 : Int), ()) = (xR, [(0 : Int), (2 : Int)], xG, (0 : Int), ())) (Tree.need ((↑(List.length [(0 : Int), (-1 : Int)]) : Int) < (2 : Int) ^ (62 : Nat)) (Tree.need (((xPs, xBs), xG, (0 : Int), ()) = (xR, xG, (0 : Int), ())) (Tree.need ((↑(List.length [((1 : Int), (1 : Int), (5 : Int)), ((0 : Int), (1 : Int), (3 : Int))]) : Int) < (2 : Int) ^ (62 : Nat)) (Tree.need ((↑(List.length (mrgS (xPs, xBs) [(0 : Int), (0 : Int)] [((1 : Int), (1 : Int), (5 : Int)), ((0 : Int), (1 : Int), (3 : Int))]).fst) : Int) < (2 : Int) ^ (62 : Nat)) (Tree.need ((↑(List.length (mrgS (xPs, xBs) [(0 : Int), (0 : Int)] [((1 : Int), (1 : Int), (5 : Int)), ((0 : Int), (1 : Int), (3 : Int))]).snd.fst) : Int) < (2 : Int) ^ (62 : Nat)) (Tree.need ((↑(List.length [((4 : Int), (1000 : Int), (300000 : Int), (10 : Int), (13 : Int), (1073741824 : Int), (1073741824 : Int), (0 : Int), (0 : Int))]) : Int) < (2 : Int) ^ (62 : Nat)) (Tree.need ((↑(List.length (shearS ((2000 : Int), (100 : Int), (20 : Int)) [((4 : Int), (1000 : Int), (300000 : Int), (10 : Int), (13 : Int), (1073741824 : Int), (1073741824 : Int), (0 : Int), (0 : Int))] (0 : Int) (8 : Int) (1 : Int) ((1 : Int), (1 : Int)))) : Int) < (2 : Int) ^ (62 : Nat)) (Tree.leaf (SV.bool true)))))))))))))))))) := by kernel_rfl
def c_RigKnown : PC P := PC.of (α := Unit) 17 [] (fun x => x) (fun x => x) (fun _ => rfl) (fun _ => none) (fun _ => .bool true) (by kernel_rfl) (by
    rintro ⟨⟩ hp
    refine fn_closed (by kernel_rfl) (by kernel_rfl) (T_RigKnown ()) trivial ?_
    have d : ∀ {p : Prop} [Decidable p], decide p = true → p := fun h => of_decide_eq_true h
    exact ⟨by decide, by decide, by decide, ⟨by decide, by decide⟩, ⟨by decide, by decide⟩, by decide +kernel, by decide +kernel, .inl rfl, .inr rfl, rfl, by decide, rfl, by decide, by decide +kernel, by decide +kernel, by decide, by decide +kernel, rfl⟩)
end
end Go.MR
