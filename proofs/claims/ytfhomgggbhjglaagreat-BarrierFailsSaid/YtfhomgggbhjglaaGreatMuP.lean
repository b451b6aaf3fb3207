/- When the rule ceases to hold: plain laws. -/
import Derived.Test.YtfhomgggbhjglaaGreatMuO
namespace Go.MB
open Go Go.Sx Go.Proofs
set_option linter.unusedVariables false
set_option linter.unusedSimpArgs false
noncomputable section
theorem inF_mono {f g:List Bool} (h:∀ i:Nat,f.getD i false = true → g.getD i false = true) {l:List Int} (hl:inF f l = true):inF g l = true:=by
  unfold inF at *
  rw [List.all_eq_true] at *
  exact fun i hi => h _ (hl i hi)
theorem standF_sub {f g:List Bool} (h:∀ i:Nat,f.getD i false = true → g.getD i false = true):∀ (l:List (List Int)) (i:Int),∀ k ∈ standF f l i,k ∈ standF g l i
  | [],i,k,hk => hk
  | x :: l,i,k,hk => by
    rw [standF] at hk ⊢
    by_cases c:inF f x = true
    · rw [if_pos c] at hk
      rw [if_pos (inF_mono h c)]
      rcases List.mem_cons.1 hk with rfl | hk
      · exact List.mem_cons_self
      · exact List.mem_cons_of_mem _ (standF_sub h l _ k hk)
    · rw [if_neg c] at hk
      have:=standF_sub h l _ k hk
      split
      · exact List.mem_cons_of_mem _ this
      · exact this
theorem proofF_mono {h:Hs} {f g:List Bool} (hn:0 ≤ h.2.2) (hfg:∀ i:Nat,f.getD i false = true → g.getD i false = true) (hf:(proofF h f).isSome = true):(proofF h g).isSome = true:=by
  unfold proofF at *
  cases e:prf h.2.1 (standF f h.2.1 0) [] h.2.2.toNat with
  | none => rw [e] at hf; cases hf
  | some x =>
    obtain ⟨p,y,ex,s,len⟩:=prf_sound e List.Pairwise.nil
    rw [List.nil_append] at ex
    subst ex
    have ha:x.Pairwise (· < ·):=(standF_asc f h.2.1 0 (by decide)).sublist s
    refine prf_full x (ha.imp fun h => by omega) (fun a ha => standF_sub hfg _ _ _ (s.subset ha)) len (fun a ha b hb hab => ?_) (fun a ha => by cases ha)
    have hs:∀ a b,Dj h.2.1 a b → Dj h.2.1 b a:=fun a b e => by
      unfold Dj at *
      rw [shS_disj] at *
      rw [shS_comm]; exact e
    exact pw_all hs p a ha b hb hab
theorem soundF_at (h:Hs) (tick press:Int) (i:Nat):(soundF h tick press).getD i false = (match h.1[i]? with | some e => effS e tick press | none => false):=by
  unfold soundF
  rw [List.getD_eq_getElem?_getD,List.getElem?_map]
  cases h.1[i]? <;> rfl
theorem holds_mono {h:Hs} {t u p q:Int} (hn:0 ≤ h.2.2) (hf:∀ e ∈ h.1,effS e t p = true → effS e u q = true) (hh:holdsS h t p = true):holdsS h u q = true:=by
  refine proofF_mono hn (fun i hi => ?_) hh
  rw [soundF_at] at hi ⊢
  cases e:h.1[i]? with
  | none => rw [e] at hi; cases hi
  | some x =>
    rw [e] at hi
    exact hf x (List.mem_of_getElem? e) hi
theorem effS_iff {e:E4} {t p:Int}:effS e t p = true ↔ e.1 = 2 ∧ (e.2.2.1 ≤ t ∧ t ≤ e.2.2.2) ∧ e.2.1 ≥ p:=by
  unfold effS
  rw [Bool.and_eq_true,Bool.and_eq_true,decide_eq_true_eq,decide_eq_true_eq,wi_iff]
theorem holds_some {h:Hs} (k:HOk h) {t p:Int} (hh:holdsS h t p = true) : ∃ e ∈ h.1,effS e t p = true:=by
  unfold holdsS proofF at hh
  have nd:=k.nd
  cases e:prf h.2.1 (standF (soundF h t p) h.2.1 0) [] h.2.2.toNat with
  | none => rw [e] at hh; cases hh
  | some x =>
    obtain ⟨_,y,ex,s,len⟩:=prf_sound e List.Pairwise.nil
    rw [List.nil_append] at ex
    subst ex
    cases x with
    | nil => rw [List.length_nil] at len; omega
    | cons a r =>
      have ha:=s.subset (List.mem_cons_self (a:=a) (l:=r))
      have h1:=standF_in (soundF h t p) h.2.1 0 (by decide) a ha
      have h2:=(standF_ok (soundF h t p) h.2.1 0 (by decide)).2 a ha
      rw [Int.sub_zero] at h1
      have h3:=k.ev _ (getD_mem (d:=([] : List Int)) (show a.toNat < h.2.1.length by omega))
      cases c:h.2.1.getD a.toNat [] with
      | nil => exact absurd c h3.1
      | cons b q =>
        rw [c] at h1 h3
        have h4:=List.all_eq_true.1 h1 b List.mem_cons_self
        rw [soundF_at] at h4
        cases c2:h.1[b.toNat]? with
        | none => rw [c2] at h4; cases h4
        | some z => rw [c2] at h4; exact ⟨z,List.mem_of_getElem? c2,h4⟩
theorem prS_two {h:Hs} {t p:Int}:(prS h t p).2 = true ↔ houseE h = 0 ∧ holdsS h t p = true:=by
  unfold prS
  by_cases c:houseE h = 0
  · rw [if_neg (fun n => n c)]; simp [c]
  · rw [if_pos c]; simp [c]
end
end Go.MB
