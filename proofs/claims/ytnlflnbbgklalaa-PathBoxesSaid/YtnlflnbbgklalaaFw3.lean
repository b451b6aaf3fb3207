/- Part 3 of a verified symbolic walk over the model's code: what it says of a function's code holds of every run of it. No condition. -/
import Derived.Test.YtnlflnbbgklalaaFw2
import Derived.ProofKit
import Derived.OpenShut
import Derived.WideKeyArgs
set_option linter.unusedVariables false
set_option linter.unusedSimpArgs false

namespace Go.Sx
open Go.RowKit

theorem apH_append (H : Hp) : ∀ (a b : List (Nat × Option Ob)), apH H (a ++ b) = apH (apH H b) a
  | [], b => rfl
  | (k, o) :: r, b => by
    funext j
    show (bif Nat.beq j k then o else apH H (r ++ b) j) = (bif Nat.beq j k then o else apH (apH H b) r j)
    rw [apH_append H r b]

/-- Memory seen under other names. -/
theorem HSat.along {w0 w : World} {M M2 : Nat → Prop} {E E2 : En} {U U2 : Nat → Bool} {H H2 : Hp} (hs : HSat w0 M E U H w) (τ : Nat → Nat) (hI : E2.I = E.I) (hM : ∀ b, M b → M2 b)
    (h : ∀ k o, H2 k = some o → U2 k = true ∧ ObRep E2 U2 w k o ∧ E2.ρ k = E.ρ (τ k) ∧ ∃ o', H (τ k) = some o' ∧ (o.live E2 k → o'.live E (τ k)))
    (hinj : ∀ j k o o', H2 j = some o → H2 k = some o' → τ j = τ k → j = k) (hf : Frm w0 M2 w) : HSat w0 M2 E2 U2 H2 w := by
  have hlv : ∀ k, Live E2 H2 k → Live E H (τ k) ∧ E2.ρ k = E.ρ (τ k) := by
    rintro k ⟨o, ho, hl⟩
    obtain ⟨_, _, h3, o', h4, h5⟩ := h k o ho
    exact ⟨⟨o', h4, h5 hl⟩, h3⟩
  refine ⟨fun k o ho => ⟨(h k o ho).1, (h k o ho).2.1⟩, fun j k hj hk he => ?_, fun k hk => ?_, fun b hb => hs.lt b (hI ▸ hb), fun k hk => ?_, hf⟩
  · obtain ⟨h1, h2⟩ := hlv j hj
    obtain ⟨h3, h4⟩ := hlv k hk
    obtain ⟨o, ho, _⟩ := hj
    obtain ⟨o', ho', _⟩ := hk
    exact hinj j k o o' ho ho' (hs.inj _ _ h1 h3 (by rw [← h2, ← h4]; exact he))
  · obtain ⟨h1, h2⟩ := hlv k hk
    rw [hI, h2]; exact hs.imm _ h1
  · obtain ⟨h1, h2⟩ := hlv k hk
    rw [h2]
    rcases hs.mine _ h1 with h | h
    · exact .inl (hM _ h)
    · exact .inr h

/-- What such a function comes to: its result, the content of the variables that it was handed, new objects (their names: from 'newBase' on). -/
structure MOut where
  res : SV
  boxes : List (List SV)
  news : List Ob := []

def newBase : Nat := 100

def lookBx : List Nat → List (List SV) → Nat → Option Ob
  | i :: r, cs :: q, k => bif Nat.beq k i then some (.box cs) else lookBx r q k
  | _, _, _ => none
def lookNew : Nat → List Ob → Nat → Option Ob
  | i, o :: r, k => bif Nat.beq k i then some o else lookNew (i + 1) r k
  | _, [], _ => none
/-- The memory that it leaves. -/
def MOut.heap (o : MOut) (L : Lay) : Hp := fun k => match lookBx (L.boxes.map (·.1)) o.boxes k with
  | some b => some b
  | none => lookNew newBase o.news k

def Lay.params (L : Lay) (x : L.den) : List SV := (encL rowBase L.shs x).take L.slots.length

def MFnOk (P : Program) (f : FuncId) (L : Lay) (x : L.den) (o : MOut) : Prop :=
  ∀ (E : En) (w : World) (vals : List Value), HSat w (Mof E (L.st noU x).heap) E (L.st noU x).used (L.st noU x).heap w → RepL E (L.st noU x).used w (L.params x) vals →
    Calls P f vals.toArray w fun e w' => ∃ v, e = .returned v ∧ ∃ E' U', En.Le (L.st noU x).used U' E E' w w' ∧ HSat w (Mof E (L.st noU x).heap) E' U' (o.heap L) w' ∧ FreshI E E' (L.st noU x).heap w ∧ Rep E' U' w' o.res v

mutual
def renSV (f : Nat → Nat) : SV → SV
  | .ptr k o => .ptr (f k) o
  | .own k => .own (f k)
  | .oel k s i o => .oel (f k) s i o
  | .yld k => .yld (f k)
  | .agg cs => .agg (renL f cs)
  | .tup cs => .tup (renL f cs)
  | .fn g cs => .fn g (renL f cs)
  | s => s
def renL (f : Nat → Nat) : List SV → List SV
  | [] => []
  | c :: cs => renSV f c :: renL f cs
end

mutual
theorem ren_rep {E E2 : En} {U U2 : Nat → Bool} {w : World} {f : Nat → Nat} (hI : E2.I = E.I) : ∀ (s : SV) (v : Value), (∀ k ∈ idsOf s, U2 (f k) = true ∧ E2.ρ (f k) = E.ρ k ∧ E2.sv (f k) = E.sv k) → Rep E U w s v → Rep E2 U2 w (renSV f s) v
  | .ptr k o, v, h, hr => by
    obtain ⟨h1, h2, _⟩ := h k (by simp [idsOf])
    unfold renSV; unfold Rep at *
    exact ⟨h1, by rw [h2]; exact hr.2⟩
  | .own k, v, h, hr => by
    obtain ⟨h1, _, h2⟩ := h k (by simp [idsOf])
    unfold renSV; unfold Rep at *
    exact ⟨h1, by rw [h2]; exact hr.2.1, hr.2.2⟩
  | .oel k s i o, v, h, hr => by
    obtain ⟨h1, h2, _⟩ := h k (by simp [idsOf])
    unfold renSV; unfold Rep at *
    exact ⟨h1, by rw [h2]; exact hr.2⟩
  | .yld k, v, h, hr => by
    obtain ⟨h1, h2, _⟩ := h k (by simp [idsOf])
    unfold renSV; unfold Rep at *
    exact ⟨h1, by rw [h2]; exact hr.2⟩
  | .agg cs, v, h, hr => by unfold renSV; unfold Rep at *; obtain ⟨vs, e, hl⟩ := hr; exact ⟨vs, e, ren_repL hI cs vs (fun k hk => h k (by simpa [idsOf] using hk)) hl⟩
  | .tup cs, v, h, hr => by unfold renSV; unfold Rep at *; obtain ⟨vs, e, hl⟩ := hr; exact ⟨vs, e, ren_repL hI cs vs (fun k hk => h k (by simpa [idsOf] using hk)) hl⟩
  | .fn g cs, v, h, hr => by unfold renSV; unfold Rep at *; obtain ⟨vs, e, hl⟩ := hr; exact ⟨vs, e, ren_repL hI cs vs (fun k hk => h k (by simpa [idsOf] using hk)) hl⟩
  | .any, v, _, hr => by unfold renSV; exact data_rep hI .any v rfl hr
  | .int k n, v, _, hr => by unfold renSV; exact data_rep hI _ v rfl hr
  | .bool b, v, _, hr => by unfold renSV; exact data_rep hI _ v rfl hr
  | .str b, v, _, hr => by unfold renSV; exact data_rep hI _ v rfl hr
  | .sl t l, v, _, hr => by unfold renSV; exact data_rep hI _ v rfl hr
  | .adr t l, v, _, hr => by unfold renSV; exact data_rep hI _ v rfl hr
  | .nils, v, _, hr => by unfold renSV; exact data_rep hI _ v rfl hr
  | .nilp, v, _, hr => by unfold renSV; exact data_rep hI _ v rfl hr
theorem ren_repL {E E2 : En} {U U2 : Nat → Bool} {w : World} {f : Nat → Nat} (hI : E2.I = E.I) : ∀ (s : List SV) (v : List Value), (∀ k ∈ idsL s, U2 (f k) = true ∧ E2.ρ (f k) = E.ρ k ∧ E2.sv (f k) = E.sv k) → RepL E U w s v → RepL E2 U2 w (renL f s) v
  | [], _, _, h => by unfold renL; unfold RepL at *; exact h
  | c :: cs, _, hk, h => by
    unfold renL
    unfold RepL at *
    obtain ⟨v, r, e, h1, h2⟩ := h
    exact ⟨v, r, e, ren_rep hI c v (fun k hk' => hk k (by simp [idsL, hk'])) h1, ren_repL hI cs r (fun k hk' => hk k (by simp [idsL, hk'])) h2⟩
end

def dedup : List Nat → List Nat → List Nat
  | seen, [] => []
  | seen, k :: r => bif inL seen k then dedup seen r else k :: dedup (k :: seen) r
def idx : List Nat → Nat → Nat
  | [], _ => 0
  | j :: r, k => bif Nat.beq k j then 0 else idx r k + 1

def cellsOf (H : Hp) (k : Nat) : Option (List SV) :=
  match H k with
  | some (.box cs) => bif isDataL (vwL H cs) then some (vwL H cs) else none
  | _ => none
def cellsAll (H : Hp) : List Nat → Option (List (List SV))
  | [] => some []
  | k :: r => match cellsOf H k, cellsAll H r with
    | some c, some q => some (c :: q)
    | _, _ => none
/-- A new object as the caller gets it. -/
def newOf (H : Hp) (k : Nat) : Option Ob :=
  match H k with
  | some (.box cs) => bif isDataL (vwL H cs) then some (.box (vwL H cs)) else none
  | some (.row e t l) => some (.row e t l)
  | _ => none
def newsAll (H : Hp) : List Nat → Option (List Ob)
  | [] => some []
  | k :: r => match newOf H k, newsAll H r with
    | some c, some q => some (c :: q)
    | _, _ => none
def cellIds (H : Hp) (k : Nat) : List Nat :=
  match H k with
  | some (.box cs) => idsL cs
  | _ => []

def mRes (H : Hp) (ids : List Nat) (own : Bool) (r : SV) : Tree MOut :=
  let r' := bif own then r else vw H r
  let ks := dedup ids (idsOf r')
  let fz := (bif own then [] else idsOf r) ++ (ids ++ ks).flatMap (cellIds H)
  match cellsAll H ids, newsAll H ks with
  | some bx, some ns => bif (ks.all fun k => !inL fz k) && Nat.ble ks.length 1000 then .leaf ⟨renSV (fun k => bif inL ids k then k else newBase + idx ks k) r', bx, ns⟩ else .fail 51
  | _, _ => .fail 52

def mLeaf (P : Program) (fn : Func) (n : Nat) (L : Lay) (own : Bool) (e : Exit) (S : St) : Tree MOut :=
  match resL P n S fn.results.toList with
  | some ss => match e with
    | .normal => mRes S.heap (L.boxes.map (·.1)) own (resSV ss)
    | .ret => mRes S.heap (L.boxes.map (·.1)) own (resSV ss)
    | _ => .fail 12
  | none => .fail 11

def mTree {P : Program} (cx : List (GC P)) (lp : Nat → Option LRun) (fn : Func) (L : Lay) (own : Bool) (x : L.den) : Tree MOut :=
  match fn.body with
  | some c => if Nat.ble L.slots.length fn.ntmps then execC cx lp [] fn.ntmps 0 c ⟨fun t => (L.params x).getD t (.tup []), (L.st noU x).heap, (L.st noU x).used⟩ (fun _ => none) (fun e S _ => mLeaf P fn fn.ntmps L own e S) else .fail 13
  | none => .fail 14

end Go.Sx

namespace Go.Sx
open Go.RowKit

theorem dedup_mem : ∀ {l seen : List Nat} {k : Nat}, k ∈ dedup seen l → k ∈ l ∧ k ∉ seen
  | [], _, _, h => by cases h
  | j :: r, seen, k, h => by
    simp only [dedup] at h
    cases hb : inL seen j with
    | true =>
      rw [hb, cond_true] at h
      obtain ⟨h1, h2⟩ := dedup_mem h
      exact ⟨List.mem_cons_of_mem _ h1, h2⟩
    | false =>
      rw [hb, cond_false] at h
      rcases List.mem_cons.1 h with rfl | h
      · exact ⟨by simp, fun hm => by rw [inL_iff.2 hm] at hb; cases hb⟩
      · obtain ⟨h1, h2⟩ := dedup_mem h
        exact ⟨List.mem_cons_of_mem _ h1, fun hm => h2 (List.mem_cons_of_mem _ hm)⟩
theorem dedup_nodup : ∀ (l seen : List Nat), (dedup seen l).Nodup
  | [], _ => List.nodup_nil
  | j :: r, seen => by
    simp only [dedup]
    cases hb : inL seen j with
    | true => rw [cond_true]; exact dedup_nodup r seen
    | false =>
      rw [cond_false, List.nodup_cons]
      exact ⟨fun hm => (dedup_mem hm).2 (by simp), dedup_nodup r _⟩
theorem dedup_all : ∀ {l seen : List Nat} {k : Nat}, k ∈ l → k ∈ seen ∨ k ∈ dedup seen l
  | j :: r, seen, k, h => by
    simp only [dedup]
    cases hb : inL seen j with
    | true =>
      rw [cond_true]
      rcases List.mem_cons.1 h with rfl | h
      · exact .inl (inL_iff.1 hb)
      · exact dedup_all h
    | false =>
      rw [cond_false]
      rcases List.mem_cons.1 h with rfl | h
      · exact .inr (by simp)
      · rcases dedup_all (seen := j :: seen) h with h | h
        · rcases List.mem_cons.1 h with rfl | h
          · exact .inr (by simp)
          · exact .inl h
        · exact .inr (List.mem_cons_of_mem _ h)
theorem idx_get : ∀ {ks : List Nat} {k : Nat}, k ∈ ks → ks[idx ks k]? = some k
  | j :: r, k, h => by
    simp only [idx, beq_iff']
    by_cases e : k = j
    · subst e; simp
    · simp only [e, decide_false, cond_false]
      rcases List.mem_cons.1 h with rfl | h
      · exact absurd rfl e
      · simpa using idx_get h
theorem lookNew_get : ∀ {ns : List Ob} {i k : Nat} {o : Ob}, lookNew i ns k = some o → ∃ j, k = i + j ∧ ns[j]? = some o
  | p :: r, i, k, o, h => by
    simp only [lookNew, beq_iff'] at h
    by_cases e : k = i
    · subst e
      simp only [decide_true, cond_true, Option.some.injEq] at h
      exact ⟨0, by simp, by simp [h]⟩
    · simp only [e, decide_false, cond_false] at h
      obtain ⟨j, h1, h2⟩ := lookNew_get h
      exact ⟨j + 1, by omega, by simpa using h2⟩
theorem newsAll_get {H : Hp} : ∀ {ks : List Nat} {ns : List Ob} {j : Nat} {o : Ob}, newsAll H ks = some ns → ns[j]? = some o → ∃ k, ks[j]? = some k ∧ newOf H k = some o
  | [], ns, j, o, h, hj => by cases h; simp at hj
  | k :: r, ns, j, o, h, hj => by
    simp only [newsAll] at h
    split at h <;> try (cases h; done)
    rename_i c q h1 h2
    cases h
    cases j with
    | zero => simp at hj; subst hj; exact ⟨k, rfl, h1⟩
    | succ j => simpa using newsAll_get h2 (j := j) (by simpa using hj)
theorem newsAll_length {H : Hp} : ∀ {ks : List Nat} {ns : List Ob}, newsAll H ks = some ns → ns.length = ks.length
  | [], ns, h => by cases h; rfl
  | k :: r, ns, h => by
    simp only [newsAll] at h
    split at h <;> try (cases h; done)
    rename_i c q h1 h2
    cases h
    simp [newsAll_length h2]
theorem cellsAll_get {H : Hp} : ∀ {ids : List Nat} {bx : List (List SV)} {k : Nat} {b : Ob}, cellsAll H ids = some bx → lookBx ids bx k = some b → k ∈ ids ∧ ∃ cs, cellsOf H k = some cs ∧ b = .box cs
  | [], bx, k, b, h, hb => by cases h; cases hb
  | i :: r, bx, k, b, h, hb => by
    simp only [cellsAll] at h
    split at h <;> try (cases h; done)
    rename_i c q h1 h2
    cases h
    simp only [lookBx, beq_iff'] at hb
    by_cases e : k = i
    · subst e
      simp only [decide_true, cond_true, Option.some.injEq] at hb
      exact ⟨by simp, c, h1, hb.symm⟩
    · simp only [e, decide_false, cond_false] at hb
      obtain ⟨h3, h4⟩ := cellsAll_get h2 hb
      exact ⟨List.mem_cons_of_mem _ h3, h4⟩

/-- A layout that a contract may bear: variables only, their names low. -/
def Lay.mok (L : Lay) : Bool := (rowIds rowBase L.shs).isEmpty && L.recs.isEmpty && (L.boxes.all fun b => Nat.blt b.1 newBase)

theorem m_ok {P : Program} (hm : P.follows .mixedOrders = true) {cx : List (GC P)} {lps : List (Nat × LRun)} {f : FuncId} {fn : Func} (hf : P.funcs[f]? = some fn) {L : Lay} {own : Bool} {x : L.den} {o : MOut} (hok : L.mok = true) (hn : nodupB ((loopsOf 0 (bodyOf fn)).map (·.1)) = true)
    (hl : ∀ q ∈ lps, LoopOk P [] fn.ntmps none (L.st noU x).used (loopC (bodyOf fn) q.1) q.2) {T : Tree MOut} (ht : mTree cx (lpOf lps) fn L own x = T) (h : T.holds fun s => s = o) : MFnOk P f L x o := by
  intro E w vals hH hr
  subst ht
  simp only [Lay.mok, Bool.and_eq_true, List.isEmpty_iff, List.all_eq_true] at hok
  obtain ⟨⟨hrows, hrecs⟩, hlow⟩ := hok
  unfold mTree at h
  split at h
  · rename_i c hc
    split at h
    · rename_i hnt
      have hnt' := Nat.le_of_ble_eq_true hnt
      have e : bodyOf fn = c := by unfold bodyOf; rw [hc]
      rw [e] at hn hl
      have hvl := hr.length
      have hpl : (L.params x).length ≤ L.slots.length := by unfold Lay.params; rw [List.length_take]; omega
      let B : Bs := ⟨w, Mof E (L.st noU x).heap, E, (L.st noU x).used, fn.ntmps, []⟩
      have hsat : Sat B ⟨fun t => (L.params x).getD t (.tup []), (L.st noU x).heap, (L.st noU x).used⟩ { tmps := vals.toArray ++ Array.replicate (fn.ntmps - vals.toArray.size) undef, defers := [] } w :=
        ⟨E, by simp [B]; omega, Marked.refl _ _ _ _, fun t _ => args_rep hr _ t, hH, En.Le.refl _ _ _, fun b hb => .inl hb⟩
      refine (callsIn_wide (n := 0)).1 (callsIn_of_wp_marks (F := FR none) hf hc trivial ?_ rfl)
      refine execC_ok hm (r0 := none) (u0 := (L.st noU x).used) (B := B) (fun k hk => hk) (fun h hh => by cases hh) c 0 _ _ _ _ (loopsOk_lp hn hl) (kInv_none _ _) h ?_ _ w hsat
      intro e S' K' a' w' _ hs' hk
      have fin : ∀ ss, resL P fn.ntmps S' fn.results.toList = some ss → (mRes S'.heap (L.boxes.map (·.1)) own (resSV ss)).holds (fun s => s = o) → LeavesInM (FR none) 0 P fn a'.tmps (fun e w' => ∃ v, e = .returned v ∧ ∃ E' U', En.Le (L.st noU x).used U' E E' w w' ∧ HSat w (Mof E (L.st noU x).heap) E' U' (o.heap L) w' ∧ FreshI E E' (L.st noU x).heap w ∧ Rep E' U' w' o.res v) a'.defers .returning w' := by
        intro ss hss hk
        obtain ⟨E0, hsE⟩ := hs'
        obtain ⟨ds, hds, hnd, hd⟩ := hsE.defers
        replace hds : a'.defers = ds.map mark := by rw [hds]; exact List.append_nil _
        have hs3 := SatE.shut (B := B) ds hnd w' ⟨hsE.size, Marked.refl _ _ _ _, hsE.tmps, hsE.heap, hsE.le, hsE.fresh⟩ hd
        rw [hds]
        refine leaves_marks ds hnd w' (fun d hm => (hd d hm).2.1) ?_
        generalize ds.foldl (fun w d => w.putObj d (.deferred none)) w' = w3 at hs3
        obtain ⟨v, hrun, hrep⟩ := results_ok (fn := fn) hs3 hss
        refine ⟨v, hrun, v, rfl, ?_⟩
        unfold mRes at hk
        simp only at hk
        generalize hids : L.boxes.map (·.1) = ids at hk
        generalize hr' : (bif own then resSV ss else vw S'.heap (resSV ss)) = r' at hk
        generalize hks : dedup ids (idsOf r') = ks at hk
        generalize hfz : (bif own then [] else idsOf (resSV ss)) ++ (ids ++ ks).flatMap (cellIds S'.heap) = fz at hk
        split at hk
        · rename_i bx ns hbx hns
          cases hcond : ((ks.all fun k => !inL fz k) && Nat.ble ks.length 1000) with
          | false => rw [hcond] at hk; exact hk.elim
          | true =>
          rw [hcond, cond_true] at hk
          have ho : _ = o := hk
          simp only [Bool.and_eq_true, List.all_eq_true, Bool.not_eq_true'] at hcond
          obtain ⟨hkfz, hkl⟩ := hcond
          have hkl' := Nat.le_of_ble_eq_true hkl
          obtain ⟨E1, hle1, hs1, hfr⟩ := hs3.heap.freezeAll fz E0 S'.heap
          generalize hH1 : (fun k => if k ∈ fz then frzOb (S'.heap k) else S'.heap k) = H1 at hs1
          have hH1' : ∀ k, H1 k = if k ∈ fz then frzOb (S'.heap k) else S'.heap k := fun k => by rw [← hH1]
          let τ : Nat → Nat := fun k => if newBase ≤ k ∧ k - newBase < ks.length then ks.getD (k - newBase) 0 else k
          let E' : En := ⟨fun k => E1.ρ (τ k), fun k => E1.sv (τ k), E1.I, fun k => E1.rc k⟩
          let U' : Nat → Bool := fun k => (L.st noU x).used k || (Nat.ble newBase k && Nat.blt (k - newBase) ks.length)
          have hidlow : ∀ k ∈ ids, k < newBase := fun k hk => by
            rw [← hids] at hk
            obtain ⟨b, hb, rfl⟩ := List.mem_map.1 hk
            simpa [Nat.blt_eq] using hlow b hb
          have hused : ∀ k, (L.st noU x).used k = true ↔ k ∈ ids := fun k => by
            show usd noU (L.ids ++ rowIds rowBase L.shs) k = true ↔ _
            unfold usd
            rw [hrows]
            simp only [Lay.ids, hrecs, List.map_nil, List.append_nil, Bool.false_or]
            rw [inL_iff, hids]
          have hτlow : ∀ k ∈ ids, τ k = k := fun k hk => by
            have := hidlow k hk
            simp only [τ]
            rw [if_neg (by omega)]
          have hτnew : ∀ j k, ks[j]? = some k → τ (newBase + j) = k := fun j k hj => by
            have hlt : j < ks.length := (List.getElem?_eq_some_iff.1 hj).1
            simp only [τ]
            rw [if_pos ⟨by omega, by omega⟩]
            simp [List.getD, hj]
          have hnewU : ∀ j k, ks[j]? = some k → U' (newBase + j) = true := fun j k hj => by
            have hlt : j < ks.length := (List.getElem?_eq_some_iff.1 hj).1
            simp [U', Nat.blt_eq, hlt]
          have hcells : ∀ k cs, S'.heap k = some (.box cs) → (k ∈ ids ∨ k ∈ ks) → isDataL (vwL S'.heap cs) = true → ∀ vs, RepL E1 S'.used w3 cs vs → RepL E' U' w3 (vwL S'.heap cs) vs := fun k cs hk hin hdat vs hvs => by
            have := vwL_rep (H := S'.heap) hs1 cs vs (fun j hj => by
              rw [hH1', if_pos]
              rw [← hfz]
              refine List.mem_append_right _ (List.mem_flatMap.2 ⟨k, ?_, ?_⟩)
              · rcases hin with h | h
                · exact List.mem_append_left _ h
                · exact List.mem_append_right _ h
              · unfold cellIds; rw [hk]; exact hj) hvs
            exact data_repL (E := E1) (E' := E') rfl _ _ hdat this
          have hbox1 : ∀ k cs, S'.heap k = some (.box cs) → H1 k = some (.box cs) := fun k cs h => by
            rw [hH1', h]; split <;> rfl
          -- the memory that is left
          have hob : ∀ k b, (MOut.heap ⟨renSV (fun k => bif inL ids k then k else newBase + idx ks k) r', bx, ns⟩ L) k = some b →
              (k ∈ ids ∧ ∃ cs, S'.heap k = some (.box cs) ∧ isDataL (vwL S'.heap cs) = true ∧ b = .box (vwL S'.heap cs)) ∨ (∃ j k', k = newBase + j ∧ ks[j]? = some k' ∧ newOf S'.heap k' = some b) := fun k b hb => by
            unfold MOut.heap at hb
            simp only [hids] at hb
            split at hb
            · rename_i b' hb'
              cases hb
              obtain ⟨h1, cs, h2, rfl⟩ := cellsAll_get hbx hb'
              refine .inl ⟨h1, ?_⟩
              unfold cellsOf at h2
              split at h2 <;> try (cases h2; done)
              rename_i cs' hcs'
              cases hdat : isDataL (vwL S'.heap cs') with
              | false => rw [hdat] at h2; cases h2
              | true =>
                rw [hdat, cond_true] at h2
                cases h2
                exact ⟨cs', hcs', hdat, rfl⟩
            · obtain ⟨j, h1, h2⟩ := lookNew_get hb
              obtain ⟨k', h3, h4⟩ := newsAll_get hns h2
              exact .inr ⟨j, k', h1, h3, h4⟩
          have hknot : ∀ j k', ks[j]? = some k' → k' ∉ ids ∧ k' ∈ ks := fun j k' hj => by
            have hm : k' ∈ ks := List.mem_of_getElem? hj
            have hm2 := hm
            rw [← hks] at hm2
            exact ⟨(dedup_mem hm2).2, hm⟩
          have hksn : ks.Nodup := by rw [← hks]; exact dedup_nodup _ _
          have hle0 : En.Le (L.st noU x).used S'.used E E0 w w3 := hs3.le
          refine ⟨E', U', ⟨fun k hk => by simp only [U', hk, Bool.true_or], fun k hk => ?_, fun k hk => ?_, fun b hb => hle1.imm b (hle0.imm b hb), fun b hb => hle0.heap b hb, fun k hk => ?_⟩, ?_, fun b hb => ?_, ?_⟩
          · show E1.ρ (τ k) = _
            rw [hτlow k ((hused k).1 hk), hle1.rho k (hle0.used k hk), hle0.rho k hk]
          · show E1.sv (τ k) = _
            rw [hτlow k ((hused k).1 hk), hle1.sv k (hle0.used k hk), hle0.sv k hk]
          · show E1.rc k = _
            rw [hle1.rc k (hle0.used k hk), hle0.rc k hk]
          · rw [← ho]
            refine hs1.along τ rfl (fun b hb => hb) (fun k b hb => ?_) (fun j k b b' hj hk he => ?_) hs1.frame
            · rcases hob k b hb with ⟨h1, cs, h2, h3, rfl⟩ | ⟨j, k', rfl, h2, h3⟩
              · have h4 := hbox1 _ _ h2
                obtain ⟨_, vs, ty, h5, h6⟩ := hs1.ob k _ h4
                refine ⟨by simp only [U', (hused k).2 h1, Bool.true_or], ⟨vs, ty, ?_, hcells k cs h2 (.inl h1) h3 vs h6⟩, rfl, ⟨.box cs, by rw [hτlow k h1]; exact h4, fun _ => trivial⟩⟩
                show w3.heap[E1.ρ (τ k)]? = _
                rw [hτlow k h1]; exact h5
              · obtain ⟨hk1, hk2⟩ := hknot _ _ h2
                have hτ := hτnew _ _ h2
                unfold newOf at h3
                split at h3 <;> try (cases h3; done)
                · rename_i cs hcs
                  cases hdat : isDataL (vwL S'.heap cs) with
                  | false => rw [hdat] at h3; cases h3
                  | true =>
                    rw [hdat, cond_true] at h3
                    cases h3
                    have h4 := hbox1 _ _ hcs
                    obtain ⟨_, vs, ty, h5, h6⟩ := hs1.ob k' _ h4
                    refine ⟨hnewU _ _ h2, ⟨vs, ty, ?_, hcells k' cs hcs (.inr hk2) hdat vs h6⟩, rfl, ⟨.box cs, by rw [hτ]; exact h4, fun _ => trivial⟩⟩
                    show w3.heap[E1.ρ (τ (newBase + j))]? = _
                    rw [hτ]; exact h5
                · rename_i e t l hrow
                  cases h3
                  have h4 : H1 k' = some (.row e t l) := by
                    rw [hH1', if_neg]
                    · exact hrow
                    · intro hmem
                      have := hkfz k' hk2
                      rw [inL_iff.2 hmem] at this
                      cases this
                  obtain ⟨_, xs, h5, h6, h7⟩ := hs1.ob k' _ h4
                  have es : E'.sv (newBase + j) = E1.sv k' := by show E1.sv (τ (newBase + j)) = _; rw [hτ]
                  have er : E'.ρ (newBase + j) = E1.ρ k' := by show E1.ρ (τ (newBase + j)) = _; rw [hτ]
                  refine ⟨hnewU _ _ h2, ⟨xs, by rw [es]; exact h5, h6, by rw [es, er]; exact h7⟩, rfl, ⟨_, by rw [hτ]; exact h4, fun hlv => ?_⟩⟩
                  rw [hτ]
                  show E1.sv k' ≠ _
                  have hlv' : E'.sv (newBase + j) ≠ .slice none 0 0 := hlv
                  rw [es] at hlv'; exact hlv'
            · rcases hob j b hj with ⟨h1, _⟩ | ⟨i1, k1, rfl, h1, _⟩ <;> rcases hob k b' hk with ⟨h2, _⟩ | ⟨i2, k2, rfl, h2, _⟩
              · rw [hτlow _ h1, hτlow _ h2] at he; exact he
              · rw [hτlow _ h1, hτnew _ _ h2] at he
                exact absurd (he ▸ h1) (hknot _ _ h2).1
              · rw [hτlow _ h2, hτnew _ _ h1] at he
                exact absurd (he.symm ▸ h2) (hknot _ _ h1).1
              · rw [hτnew _ _ h1, hτnew _ _ h2] at he
                subst he
                have hl1 := (List.getElem?_eq_some_iff.1 h1).1
                have := (List.getElem?_inj hl1 hksn).1 (h1.trans h2.symm)
                rw [this]
          · rcases hfr b hb with h | ⟨k, hk, hbe⟩
            · rcases hs3.fresh b h with h | h | h
              · exact .inl h
              · exact .inr (.inl h)
              · exact .inr (.inr h)
            · rcases hs3.heap.mine k hk with h | h
              · exact .inr (.inl (hbe ▸ h))
              · exact .inr (.inr (hbe ▸ h))
          · rw [← ho]
            have hrv : Rep E1 S'.used w3 r' v := by
              rw [← hr']
              have hrep1 := Rep.mono hle1 _ _ hrep
              cases own with
              | true => exact hrep1
              | false =>
                refine vw_rep (H := S'.heap) hs1 (resSV ss) v (fun k hk => ?_) hrep1
                rw [hH1', if_pos]
                rw [← hfz]
                exact List.mem_append_left _ hk
            refine ren_rep (E := E1) (E2 := E') rfl r' v (fun k hk => ?_) hrv
            cases hb : inL ids k with
            | true =>
              have hk' := inL_iff.1 hb
              simp only [cond_true]
              refine ⟨by simp only [U', (hused k).2 hk', Bool.true_or], ?_, ?_⟩
              · show E1.ρ (τ k) = _; rw [hτlow k hk']
              · show E1.sv (τ k) = _; rw [hτlow k hk']
            | false =>
              simp only [cond_false]
              have hk' : k ∈ ks := by
                rcases dedup_all (seen := ids) hk with h | h
                · rw [inL_iff.2 h] at hb; cases hb
                · rw [← hks]; exact h
              have hg := idx_get hk'
              refine ⟨hnewU _ _ hg, ?_, ?_⟩
              · show E1.ρ (τ _) = _; rw [hτnew _ _ hg]
              · show E1.sv (τ _) = _; rw [hτnew _ _ hg]
        · exact hk.elim
      unfold mLeaf at hk
      split at hk
      · rename_i ss hss
        cases e with
        | normal => exact fin ss hss hk
        | ret => exact fin ss hss hk
        | exit id => exact hk.elim
        | goto l => exact hk.elim
        | panic ch => exact hk.elim
        | outgrown => exact hk.elim
      · exact hk.elim
    · exact h.elim
  · exact h.elim

end Go.Sx

namespace Go.Sx
open Go.RowKit

/-- Which of the caller's variables the callee's names stand for. -/
def bindK : List (Nat × Nat) → List SV → List (Nat × Nat)
  | (i, _) :: r, .ptr k _ :: q => (i, k) :: bindK r q
  | _, _ => []
def bindL : List Sh → List SV → List (Nat × Nat)
  | .ptr i _ :: r, .ptr k _ :: q => (i, k) :: bindL r q
  | .clo _ ks :: r, .fn _ cs :: q => bindK ks cs ++ bindL r q
  | _ :: r, _ :: q => bindL r q
  | _, _ => []
def look : List (Nat × Nat) → Nat → Nat
  | (i, k) :: r, j => bif Nat.beq j i then k else look r j
  | [], j => j
/-- The other way. -/
def back : List (Nat × Nat) → Nat → Nat
  | (i, k) :: r, j => bif Nat.beq j k then i else back r j
  | [], j => j

def decM (H : Hp) (m : List (Nat × Nat)) : (l : List Sh) → List SV → Option (denL l)
  | [], [] => some ()
  | .val t :: r, v :: q => match Sh.dec (.val t) (vw H v), decM H m r q with
    | some d, some x => some (d, x)
    | _, _ => none
  | .agg t :: r, v :: q => match Sh.dec (.agg t) (vw H v), decM H m r q with
    | some d, some x => some (d, x)
    | _, _ => none
  | .ptr i o :: r, .ptr k o' :: q => match decM H m r q with
    | some x => if Nat.beq (look m i) k && Nat.beq o o' then some ((), x) else none
    | _ => none
  | .fn f :: r, .fn g [] :: q => match decM H m r q with
    | some x => if Nat.beq f g then some ((), x) else none
    | _ => none
  | .clo f ks :: r, .fn g cs :: q => match decM H m r q with
    | some x => if Nat.beq f g && ptrsEq (look m) ks cs then some ((), x) else none
    | _ => none
  | .any :: r, _ :: q => match decM H m r q with
    | some x => some ((), x)
    | _ => none
  | _, _ => none

def grabM (H : Hp) (m : List (Nat × Nat)) : List (Nat × Nat) → Option (List SV)
  | (i, n) :: r => match H (look m i), grabM H m r with
    | some (.box cs), some q => if Nat.beq cs.length n then some (cs ++ q) else none
    | _, _ => none
  | [] => some []

structure MC (P : Program) where
  f : FuncId
  L : Lay
  pre : L.den → Option Prop
  out : L.den → MOut
  mok : L.mok = true
  ent : entB P f = true
  pok : ptrsOk L.ids L.shs = true
  ok : ∀ x, ndP (pre x) → MFnOk P f L x (out x)

def updBx (m : List (Nat × Nat)) : List Nat → List (List SV) → List (Nat × Option Ob)
  | i :: r, cs :: q => (look m i, some (.box cs)) :: updBx m r q
  | _, _ => []
def updNew (base : Nat) : List Ob → List (Nat × Option Ob)
  | o :: r => (base, some o) :: updNew (base + 1) r
  | [] => []

def newOk : Ob → Bool
  | .box cs => isDataL cs
  | .row _ _ _ => true
  | _ => false

def MC.con {P : Program} (c : MC P) : Con := fun args H base =>
  let m := bindL (c.L.slots.map (·.2)) args
  let ids := c.L.boxes.map (·.1)
  match grabM H m c.L.sizes with
  | some q => match decM H m c.L.shs (args ++ q) with
    | some x =>
      let o := c.out x
      bif nodupB (m.map (·.2)) && nodupB (m.map (·.1)) && (ids.all fun i => inL (m.map (·.1)) i) && (m.all fun p => inL ids p.1) && Nat.beq o.boxes.length ids.length && Nat.beq args.length c.L.slots.length
          && ((frzL c.L.shs (args ++ q)).all fun k => !inL (m.map (·.2)) k) && (o.boxes.all isDataL && o.news.all newOk && (idsOf o.res).all fun k => inL ids k || (Nat.ble newBase k && Nat.blt (k - newBase) o.news.length)) then
        some { need := c.pre x
               res := renSV (fun k => bif inL ids k then look m k else base + (k - newBase)) o.res
               upd := updBx m ids o.boxes ++ updNew base o.news ++ frzUpd H (frzL c.L.shs (args ++ q))
               news := (List.range o.news.length).map (base + ·) }
      else none
    | none => none
  | none => none

theorem nodupB_iff : ∀ {l : List Nat}, nodupB l = true → l.Nodup
  | [], _ => List.nodup_nil
  | k :: r, h => by
    simp only [nodupB, Bool.and_eq_true, Bool.not_eq_true'] at h
    rw [List.nodup_cons]
    exact ⟨fun hm => (by rw [inL_iff.2 hm] at h; cases h.1), nodupB_iff h.2⟩

theorem look_mem : ∀ {m : List (Nat × Nat)} {i k : Nat}, (m.map (·.1)).Nodup → (i, k) ∈ m → look m i = k
  | (j, l) :: r, i, k, hn, h => by
    rw [List.map_cons, List.nodup_cons] at hn
    simp only [look, beq_iff']
    rcases List.mem_cons.1 h with h | h
    · cases h; simp
    · have : i ≠ j := fun e => hn.1 (e ▸ List.mem_map_of_mem (f := (·.1)) h)
      simp only [this, decide_false, cond_false]
      exact look_mem hn.2 h
theorem back_mem : ∀ {m : List (Nat × Nat)} {i k : Nat}, (m.map (·.2)).Nodup → (i, k) ∈ m → back m k = i
  | (j, l) :: r, i, k, hn, h => by
    rw [List.map_cons, List.nodup_cons] at hn
    simp only [back, beq_iff']
    rcases List.mem_cons.1 h with h | h
    · cases h; simp
    · have : k ≠ l := fun e => hn.1 (e ▸ List.mem_map_of_mem (f := (·.2)) h)
      simp only [this, decide_false, cond_false]
      exact back_mem hn.2 h
theorem rowsL_ids : ∀ {i : Nat} {l : List Sh} {x : denL l} {k : Nat} {o : Ob}, rowsL i l x k = some o → k ∈ rowIds i l
  | i, [], x, k, o, h => by cases h
  | i, .row e t :: r, x, k, o, h => by
    simp only [rowsL, beq_iff'] at h
    by_cases hk : k = i
    · simp [rowIds, hk]
    · simp only [hk, decide_false, cond_false] at h
      exact List.mem_cons_of_mem _ (rowsL_ids h)
  | i, .val _ :: r, x, k, o, h => rowsL_ids (i := i + 1) (l := r) h
  | i, .agg _ :: r, x, k, o, h => rowsL_ids (i := i + 1) (l := r) h
  | i, .ptr _ _ :: r, x, k, o, h => rowsL_ids (i := i + 1) (l := r) h
  | i, .fn _ :: r, x, k, o, h => rowsL_ids (i := i + 1) (l := r) h
  | i, .clo _ _ :: r, x, k, o, h => rowsL_ids (i := i + 1) (l := r) h
  | i, .yld _ :: r, x, k, o, h => rowsL_ids (i := i + 1) (l := r) h
  | i, .any :: r, x, k, o, h => rowsL_ids (i := i + 1) (l := r) h

theorem decM_rep {E1 E2 : En} {U U2 : Nat → Bool} {w w0 : World} {M : Nat → Prop} {H H1 : Hp} {m : List (Nat × Nat)} {bs : List Nat} (hs1 : HSat w0 M E1 U H1 w) (hI : E2.I = E1.I) (hb : ∀ i ∈ bs, U2 i = true ∧ E2.ρ i = E1.ρ (look m i)) :
    ∀ (i : Nat) {l : List Sh} {svs : List SV} {x : denL l} {vals : List Value}, decM H m l svs = some x → (∀ k ∈ frzL l svs, H1 k = frzOb (H k)) → ptrsOk bs l = true → RepL E1 U w svs vals → RepL E2 U2 w (encL i l x) vals
  | i, [], [], _, _, _, _, _, hr => by unfold RepL at *; exact hr
  | i, .val t :: r, c :: q, x, vals, h, hf, hp, hr => by
    simp only [decM] at h
    split at h <;> try (cases h; done)
    rename_i d y hd hy
    cases h
    unfold RepL at hr
    obtain ⟨v, u, e, hv, hu⟩ := hr
    subst e
    refine RepL.cons (Sh.dec_ok (s := .val t) hI i hd (vw_rep hs1 c v (fun k hk => hf k (List.mem_append_left _ hk)) hv)) ?_
    exact decM_rep hs1 hI hb (i + 1) hy (fun k hk => hf k (List.mem_append_right _ hk)) hp hu
  | i, .agg t :: r, c :: q, x, vals, h, hf, hp, hr => by
    simp only [decM] at h
    split at h <;> try (cases h; done)
    rename_i d y hd hy
    cases h
    unfold RepL at hr
    obtain ⟨v, u, e, hv, hu⟩ := hr
    subst e
    refine RepL.cons (Sh.dec_ok (s := .agg t) hI i hd (vw_rep hs1 c v (fun k hk => hf k (List.mem_append_left _ hk)) hv)) ?_
    exact decM_rep hs1 hI hb (i + 1) hy (fun k hk => hf k (List.mem_append_right _ hk)) hp hu
  | i, .ptr a o :: r, c :: q, x, vals, h, hf, hp, hr => by
    simp only [ptrsOk, Bool.and_eq_true] at hp
    cases c with
    | ptr k o' =>
      simp only [decM] at h
      split at h <;> try (cases h; done)
      rename_i y hy
      split at h <;> try (cases h; done)
      rename_i he
      simp only [Bool.and_eq_true] at he
      have e1 := Nat.eq_of_beq_eq_true he.1
      have e2 := Nat.eq_of_beq_eq_true he.2
      subst e1 e2
      cases h
      unfold RepL at hr
      obtain ⟨v, u, e, hv, hu⟩ := hr
      subst e
      refine RepL.cons ?_ (decM_rep hs1 hI hb (i + 1) hy hf hp.2 hu)
      obtain ⟨hb1, hb2⟩ := hb a (inL_iff.1 hp.1)
      show Rep E2 U2 w (.ptr a o) v
      unfold Rep at hv ⊢
      exact ⟨hb1, by rw [hb2]; exact hv.2⟩
    | _ => cases h
  | i, .fn f :: r, c :: q, x, vals, h, hf, hp, hr => by
    cases c with
    | fn g cs =>
      cases cs with
      | nil =>
        simp only [decM] at h
        split at h <;> try (cases h; done)
        rename_i y hy
        split at h <;> try (cases h; done)
        rename_i he
        have e1 := Nat.eq_of_beq_eq_true he
        subst e1
        cases h
        unfold RepL at hr
        obtain ⟨v, u, e, hv, hu⟩ := hr
        subst e
        exact RepL.cons (data_rep hI (.fn f []) v rfl hv) (decM_rep hs1 hI hb (i + 1) hy hf hp hu)
      | cons _ _ => cases h
    | _ => cases h
  | i, .clo f ks :: r, c :: q, x, vals, h, hf, hp, hr => by
    simp only [ptrsOk, Bool.and_eq_true, List.all_eq_true] at hp
    cases c with
    | fn g cs =>
      simp only [decM] at h
      split at h <;> try (cases h; done)
      rename_i y hy
      split at h <;> try (cases h; done)
      rename_i he
      simp only [Bool.and_eq_true] at he
      have e1 := Nat.eq_of_beq_eq_true he.1
      subst e1
      cases h
      unfold RepL at hr
      obtain ⟨v, u, e, hv, hu⟩ := hr
      subst e
      refine RepL.cons ?_ (decM_rep hs1 hI hb (i + 1) hy hf hp.2 hu)
      show Rep E2 U2 w (.fn f (encK ks)) v
      unfold Rep at hv ⊢
      obtain ⟨vs, hv1, hv2⟩ := hv
      exact ⟨vs, hv1, ptrsEq_rep he.2 (fun p hp' => hb p.1 (inL_iff.1 (hp.1 p hp'))) hv2⟩
    | _ => cases h
  | i, .any :: r, c :: q, x, vals, h, hf, hp, hr => by
    simp only [decM] at h
    split at h <;> try (cases h; done)
    rename_i y hy
    cases h
    unfold RepL at hr
    obtain ⟨v, u, e, hv, hu⟩ := hr
    subst e
    exact RepL.cons (by show Rep E2 U2 w .any v; unfold Rep; trivial) (decM_rep hs1 hI hb (i + 1) hy hf hp hu)
  | i, .yld _ :: r, c :: q, _, _, h, _, _, _ => by cases c <;> cases h
  | i, .row _ _ :: r, c :: q, _, _, h, _, _, _ => by cases c <;> cases h
  | i, [], _ :: _, _, _, h, _, _, _ => by cases h
  | i, s :: _, [], _, _, h, _, _, _ => by cases s <;> cases h

theorem grabM_rep {E1 E2 : En} {U U2 : Nat → Bool} {w w0 : World} {M : Nat → Prop} {H : Hp} {m : List (Nat × Nat)} (hs : HSat w0 M E1 U H w) : ∀ {bs : List (Nat × Nat)} {q : List SV}, grabM H m bs = some q →
    ∃ vals, RepL E1 U w q vals ∧ ∀ es, RepL E2 U2 w es vals → ∀ k cs, lookB bs es k = some cs → k ∈ bs.map (·.1) ∧ (∃ cs0, H (look m k) = some (.box cs0)) ∧ ∃ vs ty, w.heap[E1.ρ (look m k)]? = some (.cells (List.toArray vs) ty (0, 0)) ∧ RepL E2 U2 w cs vs
  | [], q, h => by
    cases h
    exact ⟨[], RepL.nil, fun es _ k cs hk => by cases hk⟩
  | (k0, n) :: r, q, h => by
    simp only [grabM] at h
    split at h <;> try (cases h; done)
    rename_i cs0 q' hk0 hq
    split at h <;> try (cases h; done)
    rename_i hn
    cases h
    obtain ⟨_, vs, ty, hh, hr⟩ := hs.ob _ _ hk0
    obtain ⟨vals, h1, h2⟩ := grabM_rep (E2 := E2) (U2 := U2) hs hq
    have hl : vs.length = n := by rw [hr.length]; exact Nat.eq_of_beq_eq_true hn
    refine ⟨vs ++ vals, hr.append h1, fun es he k cs hk => ?_⟩
    simp only [lookB, beq_iff'] at hk
    by_cases e : k = k0
    · subst e
      simp only [decide_true, cond_true, Option.some.injEq] at hk
      subst hk
      refine ⟨by simp, ⟨_, hk0⟩, vs, ty, hh, ?_⟩
      have := he.take n
      rw [← hl, List.take_left, hl] at this
      exact this
    · simp only [e, decide_false, cond_false] at hk
      have := he.drop n
      rw [← hl, List.drop_left, hl] at this
      obtain ⟨h3, h4⟩ := h2 _ this k cs hk
      exact ⟨List.mem_cons_of_mem _ h3, h4⟩

theorem updBx_get {m : List (Nat × Nat)} {K : Hp} : ∀ {ids : List Nat} {bx : List (List SV)} (k : Nat), bx.length = ids.length → (∀ i ∈ ids, (i, look m i) ∈ m) → (m.map (·.2)).Nodup →
    (k ∉ ids.map (look m) ∧ apH K (updBx m ids bx) k = K k) ∨ (∃ i b, i ∈ ids ∧ k = look m i ∧ lookBx ids bx i = some b ∧ apH K (updBx m ids bx) k = some b)
  | [], bx, k, hl, _, _ => .inl ⟨by simp, by cases bx <;> rfl⟩
  | i :: r, [], k, hl, _, _ => by simp at hl
  | i :: r, cs :: q, k, hl, hm, hn => by
    have ih := updBx_get (K := K) (ids := r) (bx := q) k (by simpa using hl) (fun j hj => hm j (List.mem_cons_of_mem _ hj)) hn
    show (_ ∧ (bif Nat.beq k (look m i) then some (Ob.box cs) else apH K (updBx m r q) k) = K k) ∨ (∃ i' b, _ ∧ _ ∧ _ ∧ (bif Nat.beq k (look m i) then some (Ob.box cs) else apH K (updBx m r q) k) = some b)
    simp only [beq_iff']
    by_cases e : k = look m i
    · right
      refine ⟨i, .box cs, by simp, e, by simp [lookBx, Nat.beq_refl], by simp [e]⟩
    · simp only [e, decide_false, cond_false]
      rcases ih with ⟨h1, h2⟩ | ⟨i', b, h1, h2, h3, h4⟩
      · exact .inl ⟨by simp [e]; simpa using h1, h2⟩
      · refine .inr ⟨i', b, List.mem_cons_of_mem _ h1, h2, ?_, h4⟩
        have : i' ≠ i := fun he => e (by rw [h2, he])
        simp only [lookBx, beq_iff', this, decide_false, cond_false]
        exact h3
theorem updNew_get {K : Hp} : ∀ {ns : List Ob} {base : Nat} (k : Nat), (¬ (base ≤ k ∧ k < base + ns.length) ∧ apH K (updNew base ns) k = K k) ∨ (∃ j b, k = base + j ∧ ns[j]? = some b ∧ apH K (updNew base ns) k = some b)
  | [], base, k => .inl ⟨by simp, rfl⟩
  | o :: r, base, k => by
    have ih := updNew_get (K := K) (ns := r) (base := base + 1) k
    show (_ ∧ (bif Nat.beq k base then some o else apH K (updNew (base + 1) r) k) = K k) ∨ (∃ j b, _ ∧ _ ∧ (bif Nat.beq k base then some o else apH K (updNew (base + 1) r) k) = some b)
    simp only [beq_iff']
    by_cases e : k = base
    · exact .inr ⟨0, o, by simp [e], by simp, by simp [e]⟩
    · simp only [e, decide_false, cond_false]
      rcases ih with ⟨h1, h2⟩ | ⟨j, b, h1, h2, h3⟩
      · exact .inl ⟨by simp only [List.length_cons]; omega, h2⟩
      · exact .inr ⟨j + 1, b, by omega, by simpa using h2, h3⟩

theorem lookNew_of : ∀ {ns : List Ob} {i j : Nat} {o : Ob}, ns[j]? = some o → lookNew i ns (i + j) = some o
  | p :: r, i, 0, o, h => by simp at h; subst h; simp [lookNew, Nat.beq_refl]
  | p :: r, i, j + 1, o, h => by
    simp only [lookNew, beq_iff']
    have : i + (j + 1) ≠ i := by omega
    simp only [this, decide_false, cond_false]
    have := lookNew_of (ns := r) (i := i + 1) (j := j) (o := o) (by simpa using h)
    rw [show i + (j + 1) = i + 1 + j from by omega]; exact this

theorem grabM_congr {H H1 : Hp} {m : List (Nat × Nat)} (h : ∀ k cs, H k = some (.box cs) → H1 k = some (.box cs)) : ∀ {bs : List (Nat × Nat)} {q : List SV}, grabM H m bs = some q → grabM H1 m bs = some q
  | [], q, hq => hq
  | (k0, n) :: r, q, hq => by
    simp only [grabM] at hq ⊢
    split at hq <;> try (cases hq; done)
    rename_i cs0 q' hk0 hq'
    rw [h _ _ hk0]
    simp only [grabM_congr h hq']
    exact hq
theorem grabM_box {H : Hp} {m : List (Nat × Nat)} : ∀ {bs : List (Nat × Nat)} {q : List SV}, grabM H m bs = some q → ∀ i ∈ bs.map (·.1), ∃ cs, H (look m i) = some (.box cs)
  | (k0, n) :: r, q, hq, i, hi => by
    simp only [grabM] at hq
    split at hq <;> try (cases hq; done)
    rename_i cs0 q' hk0 hq'
    rcases List.mem_cons.1 hi with rfl | hi
    · exact ⟨cs0, hk0⟩
    · exact grabM_box hq' i hi
  | [], _, _, _, hi => by cases hi
theorem lookBx_none : ∀ {ids : List Nat} {bx : List (List SV)} {k : Nat}, k ∉ ids → lookBx ids bx k = none
  | [], bx, k, _ => by cases bx <;> rfl
  | i :: r, [], k, _ => rfl
  | i :: r, c :: q, k, h => by
    simp only [lookBx, beq_iff']
    have : k ≠ i := fun e => h (by simp [e])
    simp only [this, decide_false, cond_false]
    exact lookBx_none fun hm => h (List.mem_cons_of_mem _ hm)
theorem lookBx_data : ∀ {ids : List Nat} {bx : List (List SV)} {k : Nat} {b : Ob}, bx.all isDataL = true → lookBx ids bx k = some b → ∃ cs, b = .box cs ∧ isDataL cs = true
  | [], bx, k, b, _, h => by cases bx <;> cases h
  | i :: r, [], k, b, _, h => by cases h
  | i :: r, c :: q, k, b, ha, h => by
    simp only [List.all_cons, Bool.and_eq_true] at ha
    simp only [lookBx, beq_iff'] at h
    by_cases e : k = i
    · simp only [e, decide_true, cond_true, Option.some.injEq] at h
      exact ⟨c, h.symm, ha.1⟩
    · simp only [e, decide_false, cond_false] at h
      exact lookBx_data ha.2 h

theorem MC.conOk {P : Program} (c : MC P) : ConOk P c.f c.con := by
  intro args H base eff he E U w vals hs hr hnews hnd
  unfold MC.con at he
  simp only at he
  generalize hm : bindL (c.L.slots.map (·.2)) args = m at he
  generalize hids : c.L.boxes.map (·.1) = ids at he
  split at he <;> try (cases he; done)
  rename_i q hq
  split at he <;> try (cases he; done)
  rename_i x hx
  generalize hcond : (nodupB (m.map (·.2)) && nodupB (m.map (·.1)) && (ids.all fun i => inL (m.map (·.1)) i) && (m.all fun p => inL ids p.1) && Nat.beq (c.out x).boxes.length ids.length && Nat.beq args.length c.L.slots.length
          && ((frzL c.L.shs (args ++ q)).all fun k => !inL (m.map (·.2)) k) && ((c.out x).boxes.all isDataL && (c.out x).news.all newOk && (idsOf (c.out x).res).all fun k => inL ids k || (Nat.ble newBase k && Nat.blt (k - newBase) (c.out x).news.length))) = cond at he
  cases cond with
  | false => cases he
  | true =>
  rw [cond_true] at he
  cases he
  rw [Bool.and_eq_true] at hcond
  obtain ⟨hcond, hcond2⟩ := hcond
  rw [Bool.and_eq_true, Bool.and_eq_true] at hcond2
  obtain ⟨⟨hbdat, hnok⟩, hres⟩ := hcond2
  rw [List.all_eq_true] at hres hnok
  simp only [Bool.and_eq_true] at hcond
  obtain ⟨⟨⟨⟨⟨⟨hn2, hn1⟩, hdom⟩, hsub⟩, hbl⟩, hal⟩, hfzm⟩ := hcond
  rw [List.all_eq_true] at hdom hsub hfzm
  have hn2 := nodupB_iff hn2
  have hn1 := nodupB_iff hn1
  have hbl := Nat.eq_of_beq_eq_true hbl
  have hal := Nat.eq_of_beq_eq_true hal
  have hmok := c.mok
  simp only [Lay.mok, Bool.and_eq_true, List.isEmpty_iff] at hmok
  obtain ⟨⟨hrows, hrecs⟩, hlow⟩ := hmok
  rw [List.all_eq_true] at hlow
  have hidlow : ∀ i ∈ ids, i < newBase := fun i hi => by
    rw [← hids] at hi
    obtain ⟨b, hb, rfl⟩ := List.mem_map.1 hi
    simpa [Nat.blt_eq] using hlow b hb
  have hmem : ∀ i ∈ ids, (i, look m i) ∈ m := fun i hi => by
    obtain ⟨p, hp, rfl⟩ := List.mem_map.1 (inL_iff.1 (hdom i hi))
    rw [look_mem hn1 (i := p.1) (k := p.2) hp]; exact hp
  have hback : ∀ i ∈ ids, back m (look m i) = i := fun i hi => back_mem hn2 (hmem i hi)
  have hLids : c.L.ids = ids := by unfold Lay.ids; rw [hrecs, hids]; simp
  have hsz : c.L.sizes.map (·.1) = ids := by unfold Lay.sizes; rw [List.map_map, ← hids]; rfl
  -- plain data are given up
  obtain ⟨E1, hle1, hs1, hfr⟩ := hs.freezeAll (frzL c.L.shs (args ++ q)) E H
  generalize hH1 : (fun k => if k ∈ frzL c.L.shs (args ++ q) then frzOb (H k) else H k) = H1 at hs1
  have hH1' : ∀ k, H1 k = if k ∈ frzL c.L.shs (args ++ q) then frzOb (H k) else H k := fun k => by rw [← hH1]
  have hbox1 : ∀ k cs, H k = some (.box cs) → H1 k = some (.box cs) := fun k cs h => by
    rw [hH1', h]; split <;> rfl
  have hq1 := grabM_congr hbox1 hq
  let Ec : En := ⟨fun i => E1.ρ (look m i), fun i => E1.sv (look m i), E1.I, E1.rc⟩
  have hused : ∀ k, (c.L.st noU x).used k = true ↔ k ∈ ids := fun k => by
    show usd noU (c.L.ids ++ rowIds rowBase c.L.shs) k = true ↔ _
    unfold usd
    rw [hrows, hLids]
    simp only [List.append_nil, Bool.false_or]
    exact inL_iff
  obtain ⟨bvals, hb1, hb2⟩ := grabM_rep (E2 := Ec) (U2 := (c.L.st noU x).used) hs1 hq1
  have hvl := hr.length
  have hrep := decM_rep (E2 := Ec) (U2 := (c.L.st noU x).used) (bs := c.L.ids) hs1 rfl (fun i hi => ⟨(hused i).2 (hLids ▸ hi), rfl⟩) rowBase hx (fun k hk => by rw [hH1', if_pos hk]) c.pok ((RepL.mono hle1 _ _ hr).append hb1)
  have hpar : RepL Ec (c.L.st noU x).used w (c.L.params x) vals := by
    have := hrep.take c.L.slots.length
    rwa [List.take_left' (by omega)] at this
  have hbe := hb2 ((encL rowBase c.L.shs x).drop c.L.slots.length) (by
    have := hrep.drop c.L.slots.length
    rwa [List.drop_left' (by omega)] at this)
  have hH0 : ∀ k o, (c.L.st noU x).heap k = some o → k ∈ ids ∧ ∃ cs cs0, o = .box cs ∧ H1 (look m k) = some (.box cs0) ∧ ∃ vs ty, w.heap[E1.ρ (look m k)]? = some (.cells (List.toArray vs) ty (0, 0)) ∧ RepL Ec (c.L.st noU x).used w cs vs := by
    intro k o hk
    replace hk : (match lookB c.L.sizes ((encL rowBase c.L.shs x).drop c.L.slots.length) k with
      | some cs => some (.box cs)
      | none => match lookR c.L.recs k with
        | some o => some o
        | none => rowsL rowBase c.L.shs x k) = some o := hk
    split at hk
    · rename_i cs hcs
      cases hk
      obtain ⟨h1, ⟨cs0, h2⟩, vs, ty, h3, h4⟩ := hbe k cs hcs
      rw [hsz] at h1
      exact ⟨h1, cs, cs0, rfl, h2, vs, ty, h3, h4⟩
    · rw [hrecs] at hk
      have := rowsL_ids (show rowsL rowBase c.L.shs x k = some o from hk)
      rw [hrows] at this
      cases this
  have hc0 : HSat w (fun _ => True) Ec (c.L.st noU x).used (c.L.st noU x).heap w := by
    refine hs1.along (look m) rfl (fun _ _ => trivial) (fun k o ho => ?_) (fun j k o o' hj hk he => ?_) (Frm.refl w _)
    · obtain ⟨h1, cs, cs0, rfl, h2, vs, ty, h3, h4⟩ := hH0 k o ho
      exact ⟨(hused k).2 h1, ⟨vs, ty, h3, h4⟩, rfl, _, h2, fun _ => trivial⟩
    · obtain ⟨h1, _⟩ := hH0 j o hj
      obtain ⟨h2, _⟩ := hH0 k o' hk
      rw [← hback j h1, ← hback k h2, he]
  have hc := hc0.restr (fun _ => true)
  rw [rs_all] at hc
  refine (c.ok x hnd Ec w vals hc hpar).mono ?_
  rintro e w' ⟨v, rfl, E', U', hle', h', hI', hrep'⟩
  refine ⟨v, rfl, ?_⟩
  have hnewU : ∀ k, base ≤ k → k < base + (c.out x).news.length → U k = false := fun k h1 h2 =>
    hnews k (List.mem_map.2 ⟨k - base, List.mem_range.2 (by omega), by show base + (k - base) = k; omega⟩)
  generalize hnw : (List.range (c.out x).news.length).map (base + ·) = news
  have hmemn : ∀ k, k ∈ news ↔ base ≤ k ∧ k < base + (c.out x).news.length := fun k => by
    rw [← hnw, List.mem_map]
    constructor
    · rintro ⟨j, hj, rfl⟩
      have := List.mem_range.1 hj
      exact ⟨by omega, by omega⟩
    · rintro ⟨h1, h2⟩
      exact ⟨k - base, List.mem_range.2 (by omega), by omega⟩
  have hapU : ∀ k, apU U news k = true ↔ (U k = true ∨ k ∈ news) := fun k => by
    unfold apU
    rw [Bool.or_eq_true, show news.any (Nat.beq k) = inL news k from rfl, inL_iff]
  let new : Nat → Prop := fun k => base ≤ k ∧ k < base + (c.out x).news.length
  let E2 : En := ⟨fun k => if base ≤ k ∧ k < base + (c.out x).news.length then E'.ρ (newBase + (k - base)) else E1.ρ k, fun k => if base ≤ k ∧ k < base + (c.out x).news.length then E'.sv (newBase + (k - base)) else E1.sv k, E'.I, E1.rc⟩
  have hold : ∀ k, U k = true → ¬ (base ≤ k ∧ k < base + (c.out x).news.length) := fun k hk h => by
    rw [hnewU k h.1 h.2] at hk; cases hk
  have hleE : En.Le U (apU U news) E1 E2 w w' := ⟨fun k hk => (hapU k).2 (.inl hk), fun k hk => if_neg (hold k hk), fun k hk => if_neg (hold k hk), hle'.imm, hle'.heap, fun _ _ => rfl⟩
  have hUm : ∀ i ∈ ids, ∀ cs0, H1 (look m i) = some (.box cs0) → U (look m i) = true := fun i _ cs0 h => (hs1.ob _ _ h).1
  let ids2 : Nat → Bool := fun k => inL (ids.map (look m)) k
  have hM : ∀ b, Mof Ec (c.L.st noU x).heap b → Mof E1 (rs H1 ids2) b := by
    rintro b ⟨i, ⟨o, ho, _⟩, hbe⟩
    obtain ⟨h1, cs, cs0, rfl, h2, _⟩ := hH0 i o ho
    refine ⟨look m i, ⟨.box cs0, ?_, trivial⟩, hbe⟩
    unfold rs
    rw [show ids2 (look m i) = true from inL_iff.2 (List.mem_map_of_mem h1), cond_true]
    exact h2
  have hboxes : ∀ i ∈ ids, ∃ cs0, H1 (look m i) = some (.box cs0) := fun i hi => grabM_box hq1 i (hsz ▸ hi)
  have hcl : ∀ k b, apH (rs H1 ids2) (updBx m ids (c.out x).boxes ++ updNew base (c.out x).news) k = some b →
      (∃ i, i ∈ ids ∧ k = look m i ∧ ((c.out x).heap c.L) i = some b ∧ ∃ cs, b = .box cs ∧ isDataL cs = true) ∨ (∃ j, k = base + j ∧ j < (c.out x).news.length ∧ ((c.out x).heap c.L) (newBase + j) = some b ∧ newOk b = true) := by
    intro k b hk
    rw [apH_append] at hk
    rcases updBx_get (K := apH (rs H1 ids2) (updNew base (c.out x).news)) k hbl hmem hn2 with ⟨h1, h2⟩ | ⟨i, b', h1, h2, h3, h4⟩
    · rw [h2] at hk
      rcases updNew_get (K := rs H1 ids2) (ns := (c.out x).news) (base := base) k with ⟨h3, h4⟩ | ⟨j, b', h3, h4, h5⟩
      · rw [h4] at hk
        unfold rs at hk
        cases hi : ids2 k with
        | true => exact absurd (inL_iff.1 hi) h1
        | false => rw [hi] at hk; cases hk
      · rw [h5] at hk
        cases hk
        have hlt := (List.getElem?_eq_some_iff.1 h4).1
        refine .inr ⟨j, h3, hlt, ?_, hnok _ (List.mem_of_getElem? h4)⟩
        unfold MOut.heap
        rw [hids, lookBx_none (fun hm => by have := hidlow _ hm; omega)]
        exact lookNew_of h4
    · rw [h4] at hk
      cases hk
      refine .inl ⟨i, h1, h2, ?_, lookBx_data hbdat h3⟩
      unfold MOut.heap
      rw [hids, h3]
  let τ : Nat → Nat := fun k => if base ≤ k ∧ k < base + (c.out x).news.length then newBase + (k - base) else back m k
  have hτi : ∀ i ∈ ids, τ (look m i) = i ∧ E2.ρ (look m i) = E'.ρ i ∧ E2.sv (look m i) = E'.sv i := fun i hi => by
    obtain ⟨cs0, h0⟩ := hboxes i hi
    have hno := hold _ (hUm i hi cs0 h0)
    refine ⟨by simp only [τ, if_neg hno]; exact hback i hi, ?_, ?_⟩
    · show (if _ then _ else _) = _
      rw [if_neg hno]
      exact (hle'.rho i ((hused i).2 hi)).symm
    · show (if _ then _ else _) = _
      rw [if_neg hno]
      exact (hle'.sv i ((hused i).2 hi)).symm
  have hτn : ∀ j, j < (c.out x).news.length → τ (base + j) = newBase + j ∧ E2.ρ (base + j) = E'.ρ (newBase + j) ∧ E2.sv (base + j) = E'.sv (newBase + j) := fun j hj => by
    have hyes : base ≤ base + j ∧ base + j < base + (c.out x).news.length := ⟨by omega, by omega⟩
    have e : base + j - base = j := by omega
    refine ⟨by simp only [τ, if_pos hyes, e], ?_, ?_⟩
    · show (if _ then _ else _) = _
      rw [if_pos hyes, e]
    · show (if _ then _ else _) = _
      rw [if_pos hyes, e]
  have hobr : ∀ k i b, newOk b = true → E2.ρ k = E'.ρ i → E2.sv k = E'.sv i → ObRep E' U' w' i b → ObRep E2 (apU U news) w' k b := by
    intro k i b hb h1 h2 hr
    cases b with
    | box cs =>
      obtain ⟨vs, ty, h3, h4⟩ := hr
      exact ⟨vs, ty, by rw [h1]; exact h3, data_repL (E := E') (E' := E2) rfl _ _ hb h4⟩
    | row e t l =>
      obtain ⟨xs, h3, h4, h5⟩ := hr
      exact ⟨xs, by rw [h2]; exact h3, h4, by rw [h1, h2]; exact h5⟩
    | frz t l => cases hb
    | rnd p => cases hb
  have h2 : HSat w (Mof E1 (rs H1 ids2)) E2 (apU U news) (apH (rs H1 ids2) (updBx m ids (c.out x).boxes ++ updNew base (c.out x).news)) w' := by
    refine h'.along τ rfl hM (fun k b hk => ?_) (fun j k b b' hj hk he => ?_) ⟨h'.frame.os, h'.frame.tape, h'.frame.output, h'.frame.size, fun b hb hm => h'.frame.block b hb fun hx => hm (hM b hx)⟩
    · rcases hcl k b hk with ⟨i, h1, rfl, h3, cs, rfl, h4⟩ | ⟨j, rfl, h1, h3, h4⟩
      · obtain ⟨t1, t2, t3⟩ := hτi i h1
        obtain ⟨cs0, h0⟩ := hboxes i h1
        refine ⟨(hapU _).2 (.inl (hUm i h1 cs0 h0)), hobr _ i _ h4 t2 t3 (h'.ob i _ h3).2, by rw [t1, t2], .box cs, by rw [t1]; exact h3, fun _ => trivial⟩
      · obtain ⟨t1, t2, t3⟩ := hτn j h1
        refine ⟨(hapU _).2 (.inr ((hmemn _).2 ⟨by omega, by omega⟩)), hobr _ (newBase + j) _ h4 t2 t3 (h'.ob _ _ h3).2, by rw [t1, t2], _, by rw [t1]; exact h3, fun hl => ?_⟩
        rw [t1]
        cases b with
        | box cs => trivial
        | row e t l =>
          have hl' : E2.sv (base + j) ≠ .slice none 0 0 := hl
          rw [t3] at hl'
          exact hl'
        | frz t l => cases h4
        | rnd p => cases h4
    · rcases hcl j b hj with ⟨i, h1, rfl, _⟩ | ⟨j1, rfl, h1, _⟩ <;> rcases hcl k b' hk with ⟨i', h2, rfl, _⟩ | ⟨j2, rfl, h2, _⟩
      · rw [(hτi i h1).1, (hτi i' h2).1] at he; rw [he]
      · rw [(hτi i h1).1, (hτn j2 h2).1] at he
        have := hidlow i h1; omega
      · rw [(hτn j1 h1).1, (hτi i' h2).1] at he
        have := hidlow i' h2; omega
      · rw [(hτn j1 h1).1, (hτn j2 h2).1] at he; omega
  have hI2 : FreshI E1 E2 (rs H1 ids2) w := fun b hb => by
    rcases hI' b hb with h | h | h
    · exact .inl h
    · exact .inr (.inl (hM b h))
    · exact .inr (.inr h)
  obtain ⟨h3, h4⟩ := hs1.frameRule ids2 hleE h2 hI2
  refine ⟨E2, hle1.trans hleE, HSat.congr ?_ h3, fun b hb => ?_, ?_⟩
  · rw [apH_append H]
    congr 1
    funext k
    rw [frzUpd_at, hH1']
  · rcases h4 b hb with h | ⟨k, hk, hbe⟩ | h
    · rcases hfr b h with h | h
      · exact .inl h
      · exact .inr (.inl h)
    · rcases hs1.mine k hk with h | h
      · exact .inr (.inl (hbe ▸ h))
      · exact .inr (.inr (hbe ▸ h))
    · exact .inr (.inr h)
  · refine ren_rep (E := E') (E2 := E2) rfl _ v (fun k hk => ?_) hrep'
    have := hres k hk
    cases hb : inL ids k with
    | true =>
      have hk' := inL_iff.1 hb
      obtain ⟨cs0, h0⟩ := hboxes k hk'
      simp only [cond_true]
      exact ⟨(hapU _).2 (.inl (hUm k hk' cs0 h0)), (hτi k hk').2.1, (hτi k hk').2.2⟩
    | false =>
      rw [hb, Bool.false_or, Bool.and_eq_true] at this
      have h5 := Nat.le_of_ble_eq_true this.1
      have h6 : k - newBase < (c.out x).news.length := by simpa [Nat.blt_eq] using this.2
      simp only [cond_false]
      obtain ⟨t1, t2, t3⟩ := hτn (k - newBase) h6
      rw [t2, t3, show newBase + (k - newBase) = k from by omega]
      exact ⟨(hapU _).2 (.inr ((hmemn _).2 ⟨by omega, by omega⟩)), rfl, rfl⟩

def MC.gc {P : Program} (c : MC P) : GC P := ⟨c.f, c.con, c.ent, c.conOk⟩
def PC.gc {P : Program} (c : PC P) : GC P := ⟨c.f, c.con, c.ent, c.conOk⟩

end Go.Sx

namespace Go.Sx
open Go.RowKit

/-- The kind of a type whose fields lie one behind the other. -/
def tyChk (P : Program) : Nat → TypeId → Option Ty
  | 0, _ => none
  | d + 1, t => match P.underlying t with
    | some (.int k) => some (.int k)
    | some .bool => some .bool
    | some .string => some .str
    | some (.slice e) => match tyChk P d e with
      | some ty => if Nat.ble 1 ty.size && Nat.beq (P.cellsOf e) ty.size then some (.sl ty) else none
      | none => none
    | some (.struct fs) => match flds (tyChk P d) P 0 fs.toList with
      | some ty => if Nat.beq (P.cellsOf t) ty.size then some ty else none
      | none => none
    | _ => none
where
  flds (f : TypeId → Option Ty) (P : Program) (off : Nat) : List Field → Option Ty
    | [] => some .unit
    | [x] => match f x.type with
      | some a => if Nat.beq x.offset off && Nat.beq (P.cellsOf x.type) a.size then some a else none
      | none => none
    | x :: y :: r => match f x.type with
      | some a => if Nat.beq x.offset off && Nat.beq (P.cellsOf x.type) a.size then match flds f P (off + a.size) (y :: r) with
        | some b => some (.pair a b)
        | none => none
        else none
      | none => none

/-- Data as a program's arguments are: whole numbers in their kinds' ranges, no list longer than a slice can be. -/
def Ty.ok : (t : Ty) → t.den → Prop
  | .int k, n => k.min ≤ (show Int from n) ∧ (show Int from n) ≤ k.max
  | .bool, _ => True
  | .str, s => (show ByteArray from s).size ≤ maxLen
  | .unit, _ => True
  | .pair a b, d => a.ok d.1 ∧ b.ok d.2
  | .sl e, l => (show List e.den from l).length ≤ maxLen ∧ ∀ x ∈ (show List e.den from l), e.ok x

theorem mapM_cons_some {α β : Type} {f : α → Option β} {a : α} {l : List α} {r : List β} (h : (a :: l).mapM f = some r) : ∃ x q, f a = some x ∧ l.mapM f = some q ∧ r = x :: q := by
  rw [List.mapM_cons] at h
  cases hx : f a with
  | none => rw [hx] at h; cases h
  | some x =>
    cases hq : l.mapM f with
    | none => rw [hx, hq] at h; cases h
    | some q =>
      rw [hx, hq] at h
      cases h
      exact ⟨x, q, rfl, rfl, rfl⟩

theorem cells_row {w : World} {base : Nat} {a : Addr} {n : Nat} {cs : List Value} (h : w.cells? base a n = some cs) : cs.length = n ∧ ∀ i v, cs[i]? = some v → w.cell? (a.add i) = some v := by
  unfold World.cells? at h
  split at h
  · have hl := mapM_some_length h
    rw [List.length_range] at hl
    refine ⟨hl, fun i v hv => ?_⟩
    have hi : i < n := by rw [← hl]; exact (List.getElem?_eq_some_iff.1 hv).1
    rw [mapM_some_get h i i (by simp [hi])]
    exact hv
  · cases h

theorem cell_addr {w : World} {a : Addr} {v : Value} (h : w.cell? a = some v) : a.spot = none ∧ a.block < w.heap.size := by
  unfold World.cell? at h
  split at h
  · rename_i c t fr hb
    refine ⟨?_, (Array.getElem?_eq_some_iff.1 hb).1⟩
    cases hs : a.spot with
    | none => rfl
    | some x => simp [hs] at h
  · cases h

theorem flds_rep {P : Program} {w : World} {H : Type} {f : TypeId → Option Ty} {r : TypeId → List Value → Option (DataW H × List MemPlace)}
    (hr : ∀ t cs x ty, r t cs = some x → f t = some ty → ∃ d : ty.den, DRep (fun b => b < w.heap.size) w ty d cs ∧ ty.ok d) :
    ∀ (l : List Field) (off : Nat) (ty : Ty) (cs : List Value) (ys : List (DataW H × List MemPlace)), tyChk.flds f P off l = some ty →
      (l.mapM fun g => r g.type ((cs.drop g.offset).take (P.cellsOf g.type))) = some ys → cs.length = off + ty.size → ∃ d : ty.den, DRep (fun b => b < w.heap.size) w ty d (cs.drop off) ∧ ty.ok d
  | [], off, ty, cs, ys, hf, _, hl => by
    cases hf
    refine ⟨(), ?_, trivial⟩
    show cs.drop off = []
    rw [List.drop_eq_nil_of_le]
    simp only [Ty.size] at hl
    omega
  | [g], off, ty, cs, ys, hf, hm, hl => by
    simp only [tyChk.flds] at hf
    split at hf <;> try (cases hf; done)
    rename_i a ha
    split at hf <;> try (cases hf; done)
    rename_i hc
    cases hf
    simp only [Bool.and_eq_true] at hc
    have h1 := Nat.eq_of_beq_eq_true hc.1
    have h2 := Nat.eq_of_beq_eq_true hc.2
    obtain ⟨x, q, hx, _, _⟩ := mapM_cons_some hm
    obtain ⟨d, hd, hok⟩ := hr _ _ _ _ hx ha
    rw [h1, h2, List.take_of_length_le (by rw [List.length_drop]; omega)] at hd
    exact ⟨d, hd, hok⟩
  | g :: g' :: l, off, ty, cs, ys, hf, hm, hl => by
    simp only [tyChk.flds] at hf
    split at hf <;> try (cases hf; done)
    rename_i a ha
    split at hf <;> try (cases hf; done)
    rename_i hc
    split at hf <;> try (cases hf; done)
    rename_i b hb
    cases hf
    simp only [Bool.and_eq_true] at hc
    have h1 := Nat.eq_of_beq_eq_true hc.1
    have h2 := Nat.eq_of_beq_eq_true hc.2
    obtain ⟨x, q, hx, hq, _⟩ := mapM_cons_some hm
    obtain ⟨d, hd, hok⟩ := hr _ _ _ _ hx ha
    simp only [Ty.size] at hl
    obtain ⟨d', hd', hok'⟩ := flds_rep hr (g' :: l) (off + a.size) b cs q hb hq (by omega)
    rw [h1, h2] at hd
    refine ⟨(d, d'), ⟨_, _, ?_, hd, hd'⟩, hok, hok'⟩
    rw [← List.drop_drop, List.take_append_drop]

theorem list_choose {α β : Type} {R : Nat → α → β → Prop} : ∀ (l : List α) (o : Nat), (∀ i x, l[i]? = some x → ∃ d, R (o + i) x d) → ∃ ds : List β, ds.length = l.length ∧ ∀ i d, ds[i]? = some d → ∃ x, l[i]? = some x ∧ R (o + i) x d
  | [], _, _ => ⟨[], rfl, fun i d h => by simp at h⟩
  | a :: l, o, h => by
    obtain ⟨d, hd⟩ := h 0 a rfl
    obtain ⟨ds, h1, h2⟩ := list_choose l (o + 1) fun i x hx => by
      have := h (i + 1) x (by simpa using hx)
      rwa [show o + (i + 1) = o + 1 + i from by omega] at this
    refine ⟨d :: ds, by simp [h1], fun i e he => ?_⟩
    cases i with
    | zero => simp at he; subst he; exact ⟨a, rfl, hd⟩
    | succ i =>
      obtain ⟨x, hx, hR⟩ := h2 i e (by simpa using he)
      exact ⟨x, by simpa using hx, by rwa [show o + (i + 1) = o + 1 + i from by omega]⟩

theorem trod_rep {H : Type} {enc : TypeId × Value → H} {P : Program} {w : World} {base : Nat} {spare : Nat → Bool} {held : Bool} : ∀ (m n : Nat) (t : TypeId) (cs : List Value) (x : DataW H × List MemPlace) (ty : Ty),
    DataW.trod enc P w base spare held n t cs = some x → tyChk P m t = some ty → ∃ d : ty.den, DRep (fun b => b < w.heap.size) w ty d cs ∧ ty.ok d
  | 0, _, _, _, _, _, _, h => by cases h
  | m + 1, 0, _, _, _, _, h, _ => by cases h
  | m + 1, n + 1, t, cs, x, ty, h, hc => by
    unfold DataW.trod at h
    simp only [tyChk] at hc
    split at h
    · rename_i b hu
      rw [hu] at hc
      cases hc
      exact ⟨b, rfl, trivial⟩
    · rename_i k k' z hu
      rw [hu] at hc
      cases hc
      split at h <;> try (cases h; done)
      rename_i hk
      obtain ⟨rfl, hw⟩ := hk
      simp only [Lit.wf, Bool.and_eq_true, decide_eq_true_eq] at hw
      exact ⟨z, rfl, hw⟩
    · rename_i hu
      rw [hu] at hc
      cases hc
    · rename_i s hu
      rw [hu] at hc
      cases hc
      split at h <;> try (cases h; done)
      rename_i hs
      exact ⟨s, rfl, hs⟩
    · rename_i hu
      rw [hu] at hc
      cases hc
    · rename_i hu
      rw [hu] at hc
      cases hc
    · rename_i e hu
      rw [hu] at hc
      dsimp only at hc
      split at hc <;> try (cases hc; done)
      rename_i ty' hty
      split at hc <;> try (cases hc; done)
      cases hc
      exact ⟨[], ⟨_, rfl, none, 0, rfl, Nat.le_refl _, .inl rfl⟩, Nat.zero_le _, fun x hx => by cases hx⟩
    · rename_i e a len cap hu
      rw [hu] at hc
      dsimp only at hc
      split at hc <;> try (cases hc; done)
      rename_i ty' hty
      split at hc <;> try (cases hc; done)
      rename_i hck
      cases hc
      simp only [Bool.and_eq_true] at hck
      have hsz := Nat.le_of_ble_eq_true hck.1
      have hco := Nat.eq_of_beq_eq_true hck.2
      split at h <;> try (cases h; done)
      rename_i hb
      obtain ⟨_, hlc, hcm⟩ := hb
      rw [Option.bind_eq_some_iff] at h
      obtain ⟨elems, hel, _⟩ := h
      have hll := mapM_some_length hel
      rw [List.length_range] at hll
      have hone : ∀ i, i < len → ∃ d : ty'.den, ∃ cs, (w.cells? base (a.add (i * ty'.size)) ty'.size) = some cs ∧ DRep (fun b => b < w.heap.size) w ty' d cs ∧ ty'.ok d := fun i hi => by
        have hi' : i < elems.length := by omega
        have := mapM_some_get hel i i (by simp [hi])
        rw [List.getElem?_eq_getElem hi', Option.bind_eq_some_iff] at this
        obtain ⟨cs, h1, h2⟩ := this
        rw [hco] at h1
        obtain ⟨d, h3, h4⟩ := trod_rep m n e cs _ ty' h2 hty
        exact ⟨d, cs, h1, h3, h4⟩
      obtain ⟨ds, hdl, hds⟩ := list_choose (R := fun i (_ : Nat) (d : ty'.den) => ∃ cs, (w.cells? base (a.add (i * ty'.size)) ty'.size) = some cs ∧ DRep (fun b => b < w.heap.size) w ty' d cs ∧ ty'.ok d) (List.range len) 0 (fun i x hx => by
        have hi : i < len := by simpa using (List.getElem?_eq_some_iff.1 hx).1
        rw [Nat.zero_add]
        exact hone i hi)
      rw [List.length_range] at hdl
      refine ⟨ds, ⟨_, rfl, some a, cap, by rw [hdl], by rw [hdl]; exact hlc, ?_⟩, by show ds.length ≤ maxLen; omega, fun x hx => ?_⟩
      · by_cases h0 : len = 0
        · left; exact List.eq_nil_of_length_eq_zero (by omega)
        · right
          have ha : a.spot = none ∧ a.block < w.heap.size := by
            obtain ⟨d, cs, h1, _⟩ := hone 0 (by omega)
            obtain ⟨h2, h3⟩ := cells_row h1
            have h4 : 0 < cs.length := by omega
            have := h3 0 cs[0] (List.getElem?_eq_getElem h4)
            simp only [Nat.zero_mul, Addr.add, if_true] at this
            exact cell_addr this
          obtain ⟨b, o, sp⟩ := a
          obtain ⟨hsp, hbl⟩ := ha
          simp only at hsp hbl
          subst hsp
          refine ⟨b, o, rfl, hbl, fun i d hd => ?_⟩
          obtain ⟨_, _, cs, h1, h2, _⟩ := hds i d hd
          rw [Nat.zero_add] at h1
          refine ⟨cs, fun j v hv => ?_, h2⟩
          have := (cells_row h1).2 j v hv
          have e : ((⟨b, o, none⟩ : Addr).add (i * ty'.size)).add j = ⟨b, o + i * ty'.size + j, none⟩ := by
            unfold Addr.add
            split <;> split <;> simp_all
          rw [e] at this
          exact this
      · obtain ⟨i, hi⟩ := List.getElem?_of_mem hx
        obtain ⟨_, _, _, _, _, h3⟩ := hds i x hi
        exact h3
    · rename_i fs hu
      rw [hu] at hc
      dsimp only at hc
      split at hc <;> try (cases hc; done)
      rename_i ty' hfl
      split at hc <;> try (cases hc; done)
      rename_i hcs
      cases hc
      have hcs := Nat.eq_of_beq_eq_true hcs
      split at h <;> try (cases h; done)
      rename_i hlen
      rw [Option.map_eq_some_iff] at h
      obtain ⟨ys, hys, _⟩ := h
      have := flds_rep (w := w) (r := DataW.trod enc P w base spare held n) (fun t cs x ty h1 h2 => trod_rep m n t cs x ty h1 h2) fs.toList 0 _ _ ys hfl hys (by rw [hlen, hcs]; omega)
      simpa using this
    all_goals first | (rename_i hu; rw [hu] at hc; cases hc; done) | (rename_i hu _; rw [hu] at hc; cases hc; done) | (rename_i hu _ _; rw [hu] at hc; cases hc; done) | (rename_i hu _ _ _; rw [hu] at hc; cases hc; done) | (cases h; done)

end Go.Sx

namespace Go.Sx
open Go.RowKit

def isStruct (P : Program) (t : TypeId) : Bool :=
  match P.underlying t with
  | some (.struct _) => true
  | _ => false
def shOf (P : Program) (t : TypeId) : Option Sh :=
  match tyChk P 9 t with
  | some ty => some (bif isStruct P t then .agg ty else .val ty)
  | none => none
def shsOf (P : Program) : List TypeId → Option (List Sh)
  | [] => some []
  | t :: r => match shOf P t, shsOf P r with
    | some s, some q => some (s :: q)
    | _, _ => none

def Sh.ok : (s : Sh) → s.den → Prop
  | .val t, d => t.ok d
  | .agg t, d => t.ok d
  | _, _ => True
def okL : (l : List Sh) → denL l → Prop
  | [], _ => True
  | s :: r, x => s.ok x.1 ∧ okL r x.2

/-- No cell holds a whole struct. -/
theorem drep_agg {I : Nat → Prop} {w : World} {cs : Array Value} : ∀ {t : Ty} {d : t.den}, ¬ DRep I w t d [.agg cs]
  | .int _, d, h => by cases (show [Value.agg cs] = _ from h)
  | .bool, d, h => by cases (show [Value.agg cs] = _ from h)
  | .str, d, h => by cases (show [Value.agg cs] = _ from h)
  | .unit, d, h => by cases (show [Value.agg cs] = _ from h)
  | .sl e, d, h => by
    obtain ⟨v, hv, p, cap, e', _⟩ := h
    cases hv
    cases e'
  | .pair a b, d, h => by
    obtain ⟨x, y, hxy, h1, h2⟩ := h
    cases x with
    | nil => simp only [List.nil_append] at hxy; subst hxy; exact drep_agg h2
    | cons v r =>
      simp only [List.cons_append, List.cons.injEq] at hxy
      obtain ⟨rfl, h3⟩ := hxy
      have : r = [] := by
        cases r with
        | nil => rfl
        | cons _ _ => cases h3
      subst this
      exact drep_agg h1

theorem arg_scalar {I : Nat → Prop} {W : World} {ty : Ty} {d : ty.den} {v : Value} (hv : ∀ cs, v ≠ .agg cs) (hx : DRep I W ty d v.cells.toList) (i : Nat) : Rep (E0 I) noU W ((Sh.val ty).enc i d) v := by
  have hc : v.cells.toList = [v] := by cases v <;> first | rfl | exact absurd rfl (hv _)
  rw [hc] at hx
  have h3 := DRep.cells (E := E0 I) (U := noU) ty d _ hx
  show Rep _ _ W ((ty.cells d).headD .any) v
  have hl := h3.length
  match hcs : ty.cells d, h3, hl with
  | [s], h3, _ =>
    obtain ⟨v', e, h4⟩ := repL1 h3
    cases e
    exact h4

theorem arg_rep {H : Type} {enc : TypeId × Value → H} {P : Program} {W : World} {b base : Nat} {sp : Nat → Bool} {held : Bool} {t : TypeId} {v : Value} {d : DataW H} {p : List MemPlace} {s : Sh} {r : Reach}
    (h : DataW.Trod enc P W base sp held t v d p) (hok : Value.okWide P W r b t v) (hs : shOf P t = some s) : ∃ x : s.den, (∀ i, Rep (E0 fun b => b < W.heap.size) noU W (s.enc i x) v) ∧ s.ok x := by
  obtain ⟨fuel, h⟩ := h
  unfold shOf at hs
  split at hs <;> try (cases hs; done)
  rename_i ty hty
  cases hs
  obtain ⟨x, hx, hxo⟩ := trod_rep 9 fuel t _ _ ty h hty
  unfold Value.okWide at hok
  unfold isStruct
  cases hu : P.underlying t with
  | none => unfold tyChk at hty; rw [hu] at hty; cases hty
  | some td =>
    rw [hu] at hok
    cases td with
    | struct fs =>
      obtain ⟨cs, rfl, _, _⟩ := hok
      refine ⟨x, fun i => ?_, hxo⟩
      show Rep _ _ W (.agg (ty.cells x)) (.agg cs)
      unfold Rep
      exact ⟨cs.toList, by simp, DRep.cells (E := E0 fun b => b < W.heap.size) ty x _ hx⟩
    | int k => exact ⟨x, fun i => arg_scalar (fun cs e => by subst e; simp [Cell.okWide, Cell.ok, hu] at hok) hx i, hxo⟩
    | bool => exact ⟨x, fun i => arg_scalar (fun cs e => by subst e; simp [Cell.okWide, Cell.ok, hu] at hok) hx i, hxo⟩
    | string => exact ⟨x, fun i => arg_scalar (fun cs e => by subst e; simp [Cell.okWide, Cell.ok, hu] at hok) hx i, hxo⟩
    | slice e => exact ⟨x, fun i => arg_scalar (fun cs e => by subst e; simp [Cell.okWide, Cell.ok, hu] at hok) hx i, hxo⟩
    | _ => unfold tyChk at hty; rw [hu] at hty; cases hty

theorem args_all {H : Type} {enc : TypeId × Value → H} {P : Program} {W : World} {b base : Nat} {sp : Nat → Bool} {held : Bool} {r : Reach} : ∀ {ts : List TypeId} {vs : List Value} {ds : List (DataW H)} {p : List MemPlace} {l : List Sh},
    DataW.TrodAll enc P W base sp held ts vs ds p → (∀ (j : Nat) t v, ts[j]? = some t → vs[j]? = some v → Value.okWide P W r b t v) → shsOf P ts = some l →
    ∃ x : denL l, (∀ i, RepL (E0 fun b => b < W.heap.size) noU W (encL i l x) vs) ∧ okL l x
  | [], [], [], _, l, _, _, hs => by
    cases hs
    exact ⟨(), fun _ => RepL.nil, trivial⟩
  | t :: ts, v :: vs, d :: ds, p, l, h, hok, hs => by
    obtain ⟨p1, q1, h1, h2, _⟩ := h
    simp only [shsOf] at hs
    split at hs <;> try (cases hs; done)
    rename_i s q hs1 hs2
    cases hs
    obtain ⟨x, hx, hxo⟩ := arg_rep h1 (hok 0 t v rfl rfl) hs1
    obtain ⟨y, hy, hyo⟩ := args_all h2 (fun j t v ht hv => hok (j + 1) t v (by simpa using ht) (by simpa using hv)) hs2
    exact ⟨(x, y), fun i => RepL.cons (hx i) (hy (i + 1)), hxo, hyo⟩
  | [], [], _ :: _, _, _, h, _, _ => h.elim
  | [], _ :: _, _, _, _, h, _, _ => h.elim
  | _ :: _, [], _, _, _, h, _, _ => h.elim
  | _ :: _, _ :: _, [], _, _, h, _, _ => h.elim

end Go.Sx

namespace Go.Sx
open Go.RowKit Go.ChangeShapes

theorem trodAll_stays {H : Type} {enc : TypeId × Value → H} {P : Program} (hl : laidOutB P = true) {W W' : World} (hb : Below W.heap.size W W') {sp : Nat → Bool} : ∀ {ts : List TypeId} {vs : List Value} {ds : List (DataW H)} {p : List MemPlace},
    (ts.all fun t => P.readableRec t && decide (t < P.types.size)) = true → DataW.TrodAll enc P W 0 (fun _ => true) true ts vs ds p → (∀ x ∈ p, x.block < W.heap.size ∧ sp x.block = true) → DataW.TrodAll enc P W' 0 sp true ts vs ds p
  | [], [], [], _, _, h, _ => h
  | t :: ts, v :: vs, d :: ds, _, hr, h, hp => by
    obtain ⟨p, q, h1, h2, rfl⟩ := h
    simp only [List.all_cons, Bool.and_eq_true, decide_eq_true_eq] at hr
    exact ⟨p, q, WideElems.Trod_stays hl hr.1.1 hr.1.2 h1 (fun x hx => hb.same (hp x (List.mem_append_left _ hx)).1) (fun x hx => (hp x (List.mem_append_left _ hx)).2),
      trodAll_stays hl hb hr.2 h2 (fun x hx => hp x (List.mem_append_right _ hx)), rfl⟩
  | [], [], _ :: _, _, _, h, _ => h.elim
  | [], _ :: _, _, _, _, h, _ => h.elim
  | _ :: _, [], _, _, _, h, _ => h.elim
  | _ :: _, _ :: _, [], _, _, h, _ => h.elim

theorem trodAll_len {H : Type} {enc : TypeId × Value → H} {P : Program} {W : World} {b : Nat} {sp : Nat → Bool} {hd : Bool} : ∀ {ts : List TypeId} {vs : List Value} {ds : List (DataW H)} {p : List MemPlace}, DataW.TrodAll enc P W b sp hd ts vs ds p → ds.length = ts.length
  | [], [], [], _, _ => rfl
  | t :: ts, v :: vs, d :: ds, _, h => by obtain ⟨p, q, _, h2, _⟩ := h; simp [trodAll_len h2]
  | [], [], _ :: _, _, h => h.elim
  | [], _ :: _, _, _, h => h.elim
  | _ :: _, [], _, _, h => h.elim
  | _ :: _, _ :: _, [], _, h => h.elim

theorem law_lift {H : Type} {enc : TypeId × Value → H} {C : Checked} {os : Os} {f : FuncId} {fn : Func} {s : ChangeSpec} {conds : List PathCond} {l : List Sh} {tb : TypeId}
    (own : ownKnob C.prog.godebug = none) (started : os.Started) (noInit : C.prog.inits.idxOf? f = none) (hfn : C.prog.funcs[f]? = some fn) (hsv : s.vars = [])
    (hl : laidOutB C.prog = true) (hr : (fn.params.toList.all fun t => C.prog.readableRec t && decide (t < C.prog.types.size)) = true) (hrt : fn.resultTypes = #[tb]) (htb : C.prog.underlying tb = some .bool)
    (hs : shsOf C.prog fn.params.toList = some l)
    (hspec : ∀ ds : List (DataW H), ds.length = fn.params.toList.length → s.fn H ds = { results := [.lit (.bool true)], args := ds })
    (witness : ∃ (w : World) (tape : Tape) (i : Input), w.os = os ∧ (w.forCall tape i).Shaped C.prog ∧ i.vars = [] ∧ Input.okWide C.prog (w.forCall tape i) .any w.heap.size f i ∧
      s.pre6 enc C.prog fn conds false (w.forCall tape i).memory i.args ∧ ({} : Assume).holds C.prog (lone (Frame.enter C.prog f i.args .normal) [] (w.forCall tape i)))
    (ok : ∀ x : denL l, okL l x → FnOk C.prog f (encL 0 l x) (.bool true)) :
    ReturnsInHanded {} C os f .any (s.pre6 enc C.prog fn conds false) (s.post enc C.prog fn false true false false) := by
  refine returnsInHanded_of_change own started noInit hfn witness ?_
  intro W base args ds gs before hval hW _ _
  have hW' := hW
  obtain ⟨p, q, hA, hV, rfl, hz, _⟩ := hW
  have hlt : ∀ x ∈ p ++ q, x.block < W.heap.size := fun x hx => hW'.lt x hx
  rw [hsv] at hV
  obtain ⟨rfl, rfl⟩ := trodVars_none hV
  have hval' : ∀ (j : Nat) t v, fn.params.toList[j]? = some t → args.toList[j]? = some v → Value.okWide C.prog W .any base t v := fun j t v h1 h2 => hval j t v (by simpa using h1) (by simpa using h2)
  obtain ⟨x, hx, hxo⟩ := args_all hA hval' hs
  refine (ok x hxo (fun b => b < W.heap.size) W args.toList (fun b hb => hb) (hx 0)).mono ?_
  rintro e W' ⟨_, v, rfl, hf, I', _, _, _, hv⟩
  unfold Rep at hv
  subst hv
  refine ⟨_, rfl, ds, [], p ++ [], [], p, [], hW', ?_, ?_, ?_, hf.below.frame _, fun h => by cases h⟩
  · rw [List.append_nil, hspec ds (trodAll_len hA), hrt]
    exact trodAll_mk1 (shut_bool htb true)
  · rw [List.append_nil, hspec ds (trodAll_len hA)]
    exact trodAll_stays hl hf.below hr hA fun x hx => ⟨hlt x (by simp [hx]), by simpa using hlt x (by simp [hx])⟩
  · rw [List.append_nil, hspec ds (trodAll_len hA), hsv]
    rfl

end Go.Sx

namespace Go.Sx
open Go.RowKit

theorem holds_of_eq {β : Type} {Q : β → Prop} {t t' : Tree β} (h : t = t') (h' : t'.holds Q) : t.holds Q := h ▸ h'

/-- 'holds' under a lid. -/
structure Hold {β : Type} (Q : β → Prop) (t : Tree β) : Prop where
  h : t.holds Q
theorem hold_of_eq {β : Type} {Q : β → Prop} {t t' : Tree β} (h : t = t') (h' : t'.holds Q) : Hold Q t := ⟨h ▸ h'⟩

/-- A tree has one leaf that is come to. -/
theorem Tree.holds_ex {β : Type} {Q : β → Prop} : ∀ {t : Tree β}, t.holds Q → ∃ b, Q b ∧ t.holds fun x => x = b
  | .leaf b, h => ⟨b, h, rfl⟩
  | .cond true t e, h => by
    obtain ⟨b, h1, h2⟩ := Tree.holds_ex (h.1 rfl)
    exact ⟨b, h1, fun _ => h2, fun h => by cases h⟩
  | .cond false t e, h => by
    obtain ⟨b, h1, h2⟩ := Tree.holds_ex (h.2 rfl)
    exact ⟨b, h1, (fun h => by cases h), fun _ => h2⟩
  | .need p t, h => by
    obtain ⟨b, h1, h2⟩ := Tree.holds_ex h.2
    exact ⟨b, h1, h.1, h2⟩
  | .fail _, h => h.elim

/-! ### Loops -/
/-- The loops of a code, one by one. -/
def AllK (P : Program) (ys : List YH) (n : Nat) (r0 : Option Nat) (u0 : Nat → Bool) (c : Code) : List (Nat × LRun) → Prop
  | [] => True
  | q :: l => LoopOk P ys n r0 u0 (loopC c q.1) q.2 ∧ AllK P ys n r0 u0 c l
theorem AllK.all {P : Program} {ys : List YH} {n : Nat} {r0 : Option Nat} {u0 : Nat → Bool} {c : Code} : ∀ {l : List (Nat × LRun)}, AllK P ys n r0 u0 c l → ∀ q ∈ l, LoopOk P ys n r0 u0 (loopC c q.1) q.2
  | [], _, q, hq => by cases hq
  | p :: l, h, q, hq => by
    rcases List.mem_cons.1 hq with rfl | hq
    · exact h.1
    · exact AllK.all h.2 q hq

def runOf {α : Type} (n : Nat) (L : Lay) (to : L.den → α) (inv : α → Prop) (out : α → Tree (Exit × St)) : LRun := loopRun n L (fun x => some (inv (to x))) (fun x => out (to x))

def bodyK {α δ ε : Type} (to : δ → α) : δ ⊕ ε → Tree (α ⊕ ε)
  | .inl y => .leaf (.inl (to y))
  | .inr p => .leaf (.inr p)
/-- A round, over a plain product. -/
def loopBodyA {P : Program} (cx : List (GC P)) (lp : Nat → Option LRun) (ys : List YH) (n : Nat) (u0 : Nat → Bool) (body : Code) (L : Lay) (xl : Exit → Option Lay) {α : Type} (of : α → L.den) (to : L.den → α) (a : α) : Tree (α ⊕ (Exit × St)) :=
  (loopBody cx lp ys n u0 body L xl (of a)).bind (bodyK to)

def roundB {α : Type} (inv : α → Prop) (μ : α → Nat) (out : α → Tree (Exit × St)) (Q : Exit × St → Prop) (a : α) : α ⊕ (Exit × St) → Prop
  | .inl y => (inv y ∧ μ y < μ a) ∧ (out y).holds Q
  | .inr p => Q p
def relB {α : Type} (inv : α → Prop) (μ : α → Nat) (post : α → Exit × St → Prop) (a : α) : α ⊕ (Exit × St) → Prop
  | .inl y => (inv y ∧ μ y < μ a) ∧ ∀ p, post y p → post a p
  | .inr p => post a p

theorem loop_of {P : Program} (hm : P.follows .mixedOrders = true) {cx : List (GC P)} (lps : List (Nat × LRun)) {ys : List YH} {n : Nat} {r0 : Option Nat} {u0 : Nat → Bool} {c : Code} {L : Lay} {xl : Exit → Option Lay} {α : Type} {to : L.den → α} (of : α → L.den)
    {inv : α → Prop} (μ : α → Nat) {out : α → Tree (Exit × St)} (hof : ∀ x, of (to x) = x) (hc : isLoop c = true) (hL : L.ok u0 = true) (hxl : ∀ e L', xl e = some L' → L'.ok u0 = true) (hn : nodupB ((loopsOf 0 (inner c)).map (·.1)) = true)
    (hl : AllK P ys n r0 u0 (inner c) lps)
    (h : ∀ a, inv a → ∀ Q, (out a).holds Q → Hold (roundB inv μ out Q a) (loopBodyA cx (lpOf lps) ys n u0 (inner c) L xl of to a)) :
    LoopOk P ys n r0 u0 c (runOf n L to inv out) := by
  refine loop_at hm (cx := cx) (lps := lps) (xl := xl) (fun x => inv (to x)) (fun x => μ (to x)) hc hL hxl hn hl.all (fun _ h => h) fun x hx Q hQ => ?_
  have := Tree.holds_bind (h (to x) hx Q hQ).h
  rw [hof] at this
  refine Tree.holds_mono ?_ this
  rintro (y | p) hy
  · exact hy
  · exact hy

/-- A loop of whose outcome only a property is known ('post': from where the loop stands to where it ends). -/
theorem loop_rel {P : Program} (hm : P.follows .mixedOrders = true) {cx : List (GC P)} (lps : List (Nat × LRun)) {ys : List YH} {n : Nat} {r0 : Option Nat} {u0 : Nat → Bool} {c : Code} {L : Lay} {xl : Exit → Option Lay} {α : Type} {to : L.den → α} (of : α → L.den)
    {inv : α → Prop} (μ : α → Nat) (post : α → Exit × St → Prop) (hof : ∀ x, of (to x) = x) (hc : isLoop c = true) (hL : L.ok u0 = true) (hxl : ∀ e L', xl e = some L' → L'.ok u0 = true) (hn : nodupB ((loopsOf 0 (inner c)).map (·.1)) = true)
    (hl : AllK P ys n r0 u0 (inner c) lps)
    (h : ∀ a, inv a → Hold (relB inv μ post a) (loopBodyA cx (lpOf lps) ys n u0 (inner c) L xl of to a)) :
    ∃ o : α → Exit × St, LoopOk P ys n r0 u0 c (runOf n L to inv fun a => .leaf (o a)) ∧ ∀ a, inv a → post a (o a) := by
  classical
  let step : α → α ⊕ (Exit × St) → Prop := fun a r => (loopBodyA cx (lpOf lps) ys n u0 (inner c) L xl of to a).holds fun x => x = r
  have uniq : ∀ (t : Tree (α ⊕ (Exit × St))) r s, t.holds (fun x => x = r) → t.holds (fun x => x = s) → r = s := by
    intro t
    induction t with
    | leaf b => intro r s h1 h2; exact (show b = r from h1).symm.trans h2
    | cond c t e ih1 ih2 =>
      intro r s h1 h2
      cases c with
      | true => exact ih1 r s (h1.1 rfl) (h2.1 rfl)
      | false => exact ih2 r s (h1.2 rfl) (h2.2 rfl)
    | need p t ih => intro r s h1 h2; exact ih r s h1.2 h2.2
    | fail n => intro r s h1; exact h1.elim
  -- where the loop comes to
  have reach : ∀ (k : Nat) (a : α), inv a → μ a ≤ k → ∃ p, post a p ∧ ∃ (m : Nat) (f : Nat → α), f 0 = a ∧ (∀ i, i < m → step (f i) (.inl (f (i + 1)))) ∧ step (f m) (.inr p) := by
    intro k
    induction k with
    | zero =>
      intro a ha hk
      obtain ⟨r, hr, hs⟩ := Tree.holds_ex (h a ha).h
      cases r with
      | inl y => have := hr.1.2; omega
      | inr p => exact ⟨p, hr, 0, fun _ => a, rfl, fun i hi => by omega, hs⟩
    | succ k ih =>
      intro a ha hk
      obtain ⟨r, hr, hs⟩ := Tree.holds_ex (h a ha).h
      cases r with
      | inl y =>
        obtain ⟨⟨h1, h2⟩, h3⟩ := hr
        obtain ⟨p, hp, m, f, f0, fs, fe⟩ := ih y h1 (by omega)
        refine ⟨p, h3 p hp, m + 1, fun i => match i with | 0 => a | i + 1 => f i, rfl, fun i hi => ?_, fe⟩
        cases i with
        | zero => show step a (.inl (f 0)); rw [f0]; exact hs
        | succ i => exact fs i (by omega)
      | inr p => exact ⟨p, hr, 0, fun _ => a, rfl, fun i hi => by omega, hs⟩
  let Ends : α → Exit × St → Prop := fun a p => ∃ (m : Nat) (f : Nat → α), f 0 = a ∧ (∀ i, i < m → step (f i) (.inl (f (i + 1)))) ∧ step (f m) (.inr p)
  have ends_uniq : ∀ (m : Nat) (a : α) p, (∃ f : Nat → α, f 0 = a ∧ (∀ i, i < m → step (f i) (.inl (f (i + 1)))) ∧ step (f m) (.inr p)) → ∀ q, Ends a q → p = q := by
    intro m
    induction m with
    | zero =>
      rintro a p ⟨f, f0, _, fe⟩ q ⟨m', g, g0, gs, ge⟩
      cases m' with
      | zero =>
        have := uniq _ _ _ (f0 ▸ fe) (g0 ▸ ge)
        cases this; rfl
      | succ m' =>
        have := uniq _ _ _ (f0 ▸ fe) (g0 ▸ gs 0 (by omega))
        cases this
    | succ m ih =>
      rintro a p ⟨f, f0, fs, fe⟩ q ⟨m', g, g0, gs, ge⟩
      have hy := fs 0 (by omega)
      cases m' with
      | zero =>
        have := uniq _ _ _ (f0 ▸ hy) (g0 ▸ ge)
        cases this
      | succ m' =>
        have := uniq _ _ _ (f0 ▸ hy) (g0 ▸ gs 0 (by omega))
        have hfg : f 1 = g 1 := by injection this
        exact ih (f 1) p ⟨fun i => f (i + 1), rfl, fun i hi => fs (i + 1) (by omega), fe⟩ q ⟨m', fun i => g (i + 1), hfg.symm, fun i hi => gs (i + 1) (by omega), ge⟩
  let o : α → Exit × St := fun a => if h : ∃ p, Ends a p then Classical.choose h else (.normal, ⟨fun _ => .any, fun _ => none, fun _ => false⟩)
  have o_eq : ∀ a p, Ends a p → o a = p := by
    intro a p hp
    have hex : ∃ p, Ends a p := ⟨p, hp⟩
    have e : o a = Classical.choose hex := dif_pos hex
    rw [e]
    obtain ⟨m, f, hf⟩ := Classical.choose_spec hex
    exact ends_uniq m a _ ⟨f, hf⟩ p hp
  refine ⟨o, loop_of hm (cx := cx) lps of μ hof hc hL hxl hn hl ?_, ?_⟩
  · intro a ha Q hQ
    obtain ⟨r, hr, hs⟩ := Tree.holds_ex (h a ha).h
    refine ⟨Tree.holds_mono ?_ hs⟩
    rintro x rfl
    cases x with
    | inl y =>
      refine ⟨hr.1, ?_⟩
      show Q (o y)
      obtain ⟨p, _, m, f, f0, fs, fe⟩ := reach _ y hr.1.1 (Nat.le_refl _)
      rw [o_eq y p ⟨m, f, f0, fs, fe⟩]
      have : o a = p := o_eq a p ⟨m + 1, fun i => match i with | 0 => a | i + 1 => f i, rfl, fun i hi => by
        cases i with
        | zero => show step a (.inl (f 0)); rw [f0]; exact hs
        | succ i => exact fs i (by omega), fe⟩
      rw [← this]; exact hQ
    | inr p =>
      show Q p
      have : o a = p := o_eq a p ⟨0, fun _ => a, rfl, fun i hi => by omega, hs⟩
      rw [← this]; exact hQ
  · intro a ha
    obtain ⟨p, hp, hr⟩ := reach _ a ha (Nat.le_refl _)
    rw [o_eq a p hr]; exact hp

theorem LoopOk.congr {P : Program} {ys : List YH} {n : Nat} {r0 : Option Nat} {u0 : Nat → Bool} {c : Code} {L : Lay} {α : Type} {to : L.den → α} {inv : α → Prop} {out out' : α → Tree (Exit × St)} (h : LoopOk P ys n r0 u0 c (runOf n L to inv out)) (he : ∀ a, inv a → out a = out' a) : LoopOk P ys n r0 u0 c (runOf n L to inv out') := by
  intro B hB hu hy S pre o hrun hnd Q hQ a w hs
  unfold runOf loopRun at hrun
  split at hrun <;> try (cases hrun; done)
  rename_i x hx
  cases hrun
  refine h B hB hu hy S (some (inv (to x))) (out (to x)) ?_ hnd Q ?_ a w hs
  · unfold runOf loopRun
    rw [hx]
  · rw [he _ hnd]; exact hQ

def relC {α β : Type} {L' : Lay} (u0 : Nat → Bool) (inv : α → Prop) (μ : α → Nat) (post : α → β → Prop) (e : Exit) (of' : β → L'.den) (a : α) : α ⊕ (Exit × St) → Prop
  | .inl y => (inv y ∧ μ y < μ a) ∧ ∀ b, post y b → post a b
  | .inr p => ∃ b, p = (e, L'.st u0 (of' b)) ∧ post a b
/-- A loop with one way out, of whose outcome only a property is known. -/
theorem loop_rel1 {P : Program} (hm : P.follows .mixedOrders = true) {cx : List (GC P)} (lps : List (Nat × LRun)) {ys : List YH} {n : Nat} {r0 : Option Nat} {u0 : Nat → Bool} {c : Code} {L L' : Lay} {xl : Exit → Option Lay} {α β : Type} {to : L.den → α} (of : α → L.den)
    {inv : α → Prop} (μ : α → Nat) (post : α → β → Prop) (e : Exit) (of' : β → L'.den) [Nonempty β] (hof : ∀ x, of (to x) = x) (hc : isLoop c = true) (hL : L.ok u0 = true) (hxl : ∀ e L', xl e = some L' → L'.ok u0 = true) (hn : nodupB ((loopsOf 0 (inner c)).map (·.1)) = true)
    (hl : AllK P ys n r0 u0 (inner c) lps)
    (h : ∀ a, inv a → Hold (relC u0 inv μ post e of' a) (loopBodyA cx (lpOf lps) ys n u0 (inner c) L xl of to a)) :
    ∃ o : α → β, LoopOk P ys n r0 u0 c (runOf n L to inv fun a => .leaf (e, L'.st u0 (of' (o a)))) ∧ ∀ a, inv a → post a (o a) := by
  classical
  obtain ⟨o, h1, h2⟩ := loop_rel hm (cx := cx) lps (xl := xl) (to := to) (inv := inv) of μ (fun a p => ∃ b, p = (e, L'.st u0 (of' b)) ∧ post a b) hof hc hL hxl hn hl (fun a ha => ⟨Tree.holds_mono (by
    rintro (y | p) hy
    · exact ⟨hy.1, fun p ⟨b, hb1, hb2⟩ => ⟨b, hb1, hy.2 b hb2⟩⟩
    · exact hy) (h a ha).h⟩)
  let g : α → β := fun a => if ha : inv a then Classical.choose (h2 a ha) else Classical.choice inferInstance
  have hg : ∀ a, inv a → o a = (e, L'.st u0 (of' (g a))) ∧ post a (g a) := fun a ha => by
    have e1 : g a = Classical.choose (h2 a ha) := dif_pos ha
    rw [e1]
    exact Classical.choose_spec (h2 a ha)
  exact ⟨g, h1.congr fun a ha => by rw [(hg a ha).1], fun a ha => (hg a ha).2⟩

theorem range_of {P : Program} (hm : P.follows .mixedOrders = true) {cx : List (GC P)} {ys : List YH} {n : Nat} {u0 : Nat → Bool} {c : Code} {L : Lay} {xl : Exit → Option Lay} {α : Type} {to : L.den → α} (of : α → L.den) {inv : α → Prop} {out : α → Tree (Exit × St)}
    (kr : Nat) {gf : FuncId} {fnI : Func} (lpsI : α → List (Nat × LRun)) (hof : ∀ x, of (to x) = x) (hc : isRange c = true) (hL : L.ok u0 = true) (hxl : ∀ e L', xl e = some L' → L'.ok u0 = true)
    (hfn : P.funcs[gf]? = some fnI) (hg : ∀ a, ∃ caps, (L.st u0 (of a)).eval n (rgFn c) = .fn gf caps) (hn : nodupB ((loopsOf 0 (bodyOf fnI)).map (·.1)) = true)
    (hl : ∀ a, AllK P [⟨kr, roundRun cx ys n kr (L.st u0 (of a)).tmps (rgPs c).toList (rgAssign c) (rgBody c)⟩] fnI.ntmps none (apU (L.st u0 (of a)).used [kr]) (bodyOf fnI) (lpsI a))
    (h : ∀ a, inv a → ∀ Q, (out a).holds Q → Hold Q (rangeTree cx (lpOf (lpsI a)) ys n u0 kr (rgFn c) (rgPs c).toList (rgAssign c) (rgBody c) xl (L.st u0 (of a)))) :
    LoopOk P ys n none u0 c (runOf n L to inv out) := by
  rw [isRange_eq hc]
  refine range_ok hm (cx := cx) (xl := xl) kr (fun x => lpOf (lpsI (to x))) hL hxl ?_ ?_
  · intro x gf' caps fn c' he hf hb
    obtain ⟨caps', he'⟩ := hg (to x)
    rw [hof, he] at he'
    injection he' with h1 h2
    subst h1
    rw [hfn] at hf
    cases hf
    have := hl (to x)
    rw [hof] at this
    have e : bodyOf fnI = c' := by unfold bodyOf; rw [hb]
    rw [e] at this hn
    exact loopsOk_lp hn this.all
  · intro x hx Q hQ
    have := h (to x) hx Q hQ
    rw [hof] at this
    exact this.h

/-! ### Functions -/
theorem fn_of {P : Program} (hm : P.follows .mixedOrders = true) {cx : List (GC P)} {lps : List (Nat × LRun)} {f : FuncId} {fn : Func} (hf : P.funcs[f]? = some fn) {args : List SV} {res : SV} (hn : nodupB ((loopsOf 0 (bodyOf fn)).map (·.1)) = true)
    {T : Tree SV} (ht : fnTree cx (lpOf lps) fn args = T) (hl : AllK P [] fn.ntmps none noU (bodyOf fn) lps) (h : T.holds fun s => s = res) : FnOk P f args res :=
  fn_at hm hf hn hl.all ht h

def PC.of {P : Program} {α : Type} (f : FuncId) (ps : List Sh) (to : denL ps → α) (of : α → denL ps) (hof : ∀ x, of (to x) = x) (pre : α → Option Prop) (out : α → SV) (ent : entB P f = true) (ok : ∀ a, ndP (pre a) → FnOk P f (encL 0 ps (of a)) (out a)) : PC P where
  f := f
  ps := ps
  pre := fun x => pre (to x)
  out := fun x => out (to x)
  ent := ent
  ok := fun x hx => by have := ok (to x) hx; rwa [hof] at this

def MC.of {P : Program} {α : Type} (f : FuncId) (L : Lay) (to : L.den → α) (of : α → L.den) (hof : ∀ x, of (to x) = x) (pre : α → Option Prop) (out : α → MOut) (mok : L.mok = true) (ent : entB P f = true) (pok : ptrsOk L.ids L.shs = true) (ok : ∀ a, ndP (pre a) → MFnOk P f L (of a) (out a)) : MC P where
  f := f
  L := L
  pre := fun x => pre (to x)
  out := fun x => out (to x)
  mok := mok
  ent := ent
  pok := pok
  ok := fun x hx => by have := ok (to x) hx; rwa [hof] at this

/-- A function's result, by a property. -/
theorem fn_rel {P : Program} (hm : P.follows .mixedOrders = true) {cx : List (GC P)} {lps : List (Nat × LRun)} {f : FuncId} {fn : Func} (hf : P.funcs[f]? = some fn) {args : List SV} {Q : SV → Prop} (hn : nodupB ((loopsOf 0 (bodyOf fn)).map (·.1)) = true)
    {T : Tree SV} (ht : fnTree cx (lpOf lps) fn args = T) (hl : AllK P [] fn.ntmps none noU (bodyOf fn) lps) (h : T.holds Q) : ∃ s, Q s ∧ FnOk P f args s := by
  obtain ⟨s, h1, h2⟩ := Tree.holds_ex h
  exact ⟨s, h1, fn_at hm hf hn hl.all ht h2⟩

theorem m_of {P : Program} (hm : P.follows .mixedOrders = true) {cx : List (GC P)} {lps : List (Nat × LRun)} {f : FuncId} {fn : Func} (hf : P.funcs[f]? = some fn) {L : Lay} {own : Bool} {x : L.den} {o : MOut} (hok : L.mok = true) (hn : nodupB ((loopsOf 0 (bodyOf fn)).map (·.1)) = true)
    {T : Tree MOut} (ht : mTree cx (lpOf lps) fn L own x = T) (hl : AllK P [] fn.ntmps none (L.st noU x).used (bodyOf fn) lps) (h : T.holds fun s => s = o) : MFnOk P f L x o :=
  m_ok hm hf hok hn hl.all ht h
theorem m_rel {P : Program} (hm : P.follows .mixedOrders = true) {cx : List (GC P)} {lps : List (Nat × LRun)} {f : FuncId} {fn : Func} (hf : P.funcs[f]? = some fn) {L : Lay} {own : Bool} {x : L.den} {Q : MOut → Prop} (hok : L.mok = true) (hn : nodupB ((loopsOf 0 (bodyOf fn)).map (·.1)) = true)
    {T : Tree MOut} (ht : mTree cx (lpOf lps) fn L own x = T) (hl : AllK P [] fn.ntmps none (L.st noU x).used (bodyOf fn) lps) (h : T.holds Q) : ∃ o, Q o ∧ MFnOk P f L x o := by
  obtain ⟨s, h1, h2⟩ := Tree.holds_ex h
  exact ⟨s, h1, m_ok hm hf hok hn hl.all ht h2⟩

theorem choose_val {α β : Type} [Nonempty β] {pr : α → Prop} {R : α → β → Prop} (h : ∀ a, pr a → ∃ b, R a b) : ∃ f : α → β, ∀ a, pr a → R a (f a) := by
  classical
  refine ⟨fun a => if ha : pr a then Classical.choose (h a ha) else Classical.choice inferInstance, fun a ha => ?_⟩
  show R a (if ha : pr a then Classical.choose (h a ha) else Classical.choice inferInstance)
  rw [dif_pos ha]
  exact Classical.choose_spec (h a ha)

/-! ### 'nil' as an empty list -/
mutual
def LeS : SV → SV → Prop
  | .nils, .sl _ l => l = []
  | .agg cs, .agg ds => LeL cs ds
  | .tup cs, .tup ds => LeL cs ds
  | s, r => s = r
def LeL : List SV → List SV → Prop
  | [], [] => True
  | c :: cs, d :: ds => LeS c d ∧ LeL cs ds
  | _, _ => False
end
mutual
theorem LeS.rep {E : En} {U : Nat → Bool} {w : World} : ∀ (s r : SV) (v : Value), LeS s r → Rep E U w s v → Rep E U w r v
  | .agg cs, r, v, h, hr => by
    cases r with
    | agg ds =>
      unfold LeS at h
      unfold Rep at hr ⊢
      obtain ⟨vs, e, hl⟩ := hr
      exact ⟨vs, e, LeL.rep cs ds vs h hl⟩
    | _ => unfold LeS at h; rw [← h]; exact hr
  | .tup cs, r, v, h, hr => by
    cases r with
    | tup ds =>
      unfold LeS at h
      unfold Rep at hr ⊢
      obtain ⟨vs, e, hl⟩ := hr
      exact ⟨vs, e, LeL.rep cs ds vs h hl⟩
    | _ => unfold LeS at h; rw [← h]; exact hr
  | .nils, r, v, h, hr => by
    cases r with
    | sl t l =>
      unfold LeS at h
      subst h
      unfold Rep at hr ⊢
      subst hr
      exact ⟨_, rfl, none, 0, rfl, Nat.le_refl _, .inl rfl⟩
    | _ => unfold LeS at h; rw [← h]; exact hr
  | .any, r, v, h, hr => by unfold LeS at h; rw [← h]; exact hr
  | .int .., r, v, h, hr => by unfold LeS at h; rw [← h]; exact hr
  | .bool .., r, v, h, hr => by unfold LeS at h; rw [← h]; exact hr
  | .str .., r, v, h, hr => by unfold LeS at h; rw [← h]; exact hr
  | .sl .., r, v, h, hr => by unfold LeS at h; rw [← h]; exact hr
  | .adr .., r, v, h, hr => by unfold LeS at h; rw [← h]; exact hr
  | .ptr .., r, v, h, hr => by unfold LeS at h; rw [← h]; exact hr
  | .own .., r, v, h, hr => by unfold LeS at h; rw [← h]; exact hr
  | .oel .., r, v, h, hr => by unfold LeS at h; rw [← h]; exact hr
  | .nilp, r, v, h, hr => by unfold LeS at h; rw [← h]; exact hr
  | .fn .., r, v, h, hr => by unfold LeS at h; rw [← h]; exact hr
  | .yld .., r, v, h, hr => by unfold LeS at h; rw [← h]; exact hr
theorem LeL.rep {E : En} {U : Nat → Bool} {w : World} : ∀ (s r : List SV) (v : List Value), LeL s r → RepL E U w s v → RepL E U w r v
  | [], [], v, _, hr => hr
  | c :: cs, d :: ds, v, h, hr => by
    unfold LeL at h
    unfold RepL at hr ⊢
    obtain ⟨u, q, e, h1, h2⟩ := hr
    exact ⟨u, q, e, LeS.rep c d u h.1 h1, LeL.rep cs ds q h.2 h2⟩
  | [], _ :: _, _, h, _ => by unfold LeL at h; exact h.elim
  | _ :: _, [], _, h, _ => by unfold LeL at h; exact h.elim
end

theorem FnOk.le {P : Program} {f : FuncId} {args : List SV} {s r : SV} (h : FnOk P f args s) (hd : isData r = true) (hl : LeS s r) : FnOk P f args r := by
  intro I w vals hI hr
  refine (h I w vals hI hr).mono ?_
  rintro e w' ⟨_, v, he, hf, I', h1, h2, h3, hrep⟩
  exact ⟨hd, v, he, hf, I', h1, h2, h3, LeS.rep s r v hl hrep⟩

theorem fn_le {P : Program} (hm : P.follows .mixedOrders = true) {cx : List (GC P)} {lps : List (Nat × LRun)} {f : FuncId} {fn : Func} (hf : P.funcs[f]? = some fn) {args : List SV} {res : SV} (hn : nodupB ((loopsOf 0 (bodyOf fn)).map (·.1)) = true)
    {T : Tree SV} (ht : fnTree cx (lpOf lps) fn args = T) (hl : AllK P [] fn.ntmps none noU (bodyOf fn) lps) (hd : isData res = true) (h : T.holds fun s => LeS s res) : FnOk P f args res := by
  obtain ⟨s, h1, h2⟩ := Tree.holds_ex h
  exact (fn_at hm hf hn hl.all ht h2).le hd h1

end Go.Sx

