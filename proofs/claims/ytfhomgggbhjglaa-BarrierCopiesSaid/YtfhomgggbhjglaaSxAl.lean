/- States from lists: what is to be shown of them, and what an observation tells. -/
import Derived.Test.YtfhomgggbhjglaaSxAk
namespace Go.Sx
open Go.RowKit
theorem obsS_holds {β : Type} {Q : β → Prop} {k : SV → Tree β} : ∀ (s : SV),(obsS k s).holds Q → (k s).holds Q:=by
  intro s h
  cases s <;> first | exact h | exact h.elim
theorem obsL_holds {β : Type} {Q : β → Prop} : ∀ (l : List SV) (k : List SV → Tree β),(obsL l k).holds Q → (k l).holds Q
  | [],_,h => h
  | c :: r,k,h => obsL_holds r (fun q => k (c :: q)) (obsS_holds (k:=fun s => obsL r fun q => k (s :: q)) c h)
theorem obsH_holds {β : Type} {Q : β → Prop} {S : St} : ∀ (l : List Nat) (k : List (Option Ob) → Tree β),(obsH S l k).holds Q → (k (l.map S.heap)).holds Q
  | [],_,h => h
  | t :: r,k,h => by
    rw [obsH] at h
    rw [List.map_cons]
    split at h
    · rename_i a ha
      rw [ha]
      exact obsH_holds r _ (obsL_holds a (fun a => obsH S r fun q => k (some (.box a) :: q)) h)
    · rename_i ha; rw [ha]; exact obsH_holds r _ h
    · rename_i ha; rw [ha]; exact obsH_holds r _ h
    · rename_i ha; rw [ha]; exact obsH_holds r _ h
    · rename_i ha; rw [ha]; exact obsH_holds r _ h
    · exact h.elim
theorem obsU_holds {β : Type} {Q : β → Prop} {S : St} : ∀ (l : List Nat) (k : List Bool → Tree β),(obsU S l k).holds Q → (k (l.map S.used)).holds Q
  | [],_,h => h
  | t :: r,k,h => by
    rw [obsU] at h
    rw [List.map_cons]
    split at h
    · rename_i ha; rw [ha]; exact obsU_holds r _ h
    · rename_i ha; rw [ha]; exact obsU_holds r _ h
theorem obs_holds {Q : Exit × List SV × List (Option Ob) × List Bool → Prop} {ts ks us : List Nat} {e : Exit} {S : St} (h : (obs ts ks us e S).holds Q) : Q (e,ts.map S.tmps,ks.map S.heap,us.map S.used):=by
  have h1:=obsL_holds _ _ h
  have h2:=obsH_holds _ _ h1
  exact obsU_holds _ _ h2
theorem stOf_tmps {E : En} {U : Nat → Bool} {w : World} {a : Act} {ts : List (Nat × SV)} {hs : List (Nat × Option Ob)} {us : List Nat} (h : ∀ p ∈ ts,Rep E U w p.2 (a.tmps.getD p.1 undef)) (t : Nat) : Rep E U w ((stOf ts hs us).tmps t) (a.tmps.getD t undef):=by
  show Rep E U w (match ts.find? fun p => Nat.beq p.1 t with
    | some p => p.2
    | none => .any) _
  split
  · rename_i p hp
    have h1:=List.find?_some hp
    have h2:=Nat.eq_of_beq_eq_true h1
    subst h2
    exact h p (List.mem_of_find?_eq_some hp)
  · unfold Rep; trivial
theorem stOf_heap {ts : List (Nat × SV)} {hs : List (Nat × Option Ob)} {us : List Nat} {k : Nat} {o : Ob} (h : (stOf ts hs us).heap k = some o) : (k,some o) ∈ hs:=by
  have h' : apH (fun _ => none) hs k = some o:=h
  rcases apH_cases hs k with ⟨o',hm,ho⟩ | ho
  · rw [ho] at h'
    subst h'
    exact hm
  · rw [ho] at h'
    cases h'
theorem stOf_used {ts : List (Nat × SV)} {hs : List (Nat × Option Ob)} {us : List Nat} {k : Nat} : (stOf ts hs us).used k = true ↔ k ∈ us:=by
  show apU noU us k = true ↔ _
  unfold apU noU
  rw [Bool.false_or]
  exact inL_iff
theorem stOf_sat {n : Nat} {D : List Deferred} {M : Nat → Prop} {E : En} {a : Act} {w : World} {ts : List (Nat × SV)} {hs : List (Nat × Option Ob)} {us : List Nat} (hn : a.tmps.size = n) (hD : a.defers = D)
    (ht : ∀ p ∈ ts,Rep E (apU noU us) w p.2 (a.tmps.getD p.1 undef))
    (ho : ∀ k o,(k,some o) ∈ hs → k ∈ us ∧ ObRep E (apU noU us) w k o)
    (hinj : ∀ j oj k ok,(j,some oj) ∈ hs → (k,some ok) ∈ hs → oj.live E j → ok.live E k → E.ρ j = E.ρ k → j = k)
    (himm : ∀ k o,(k,some o) ∈ hs → o.live E k → ¬ E.I (E.ρ k) ∧ M (E.ρ k))
    (hlt : ∀ b,E.I b → b < w.heap.size) : SatE ⟨w,M,E,apU noU us,n,D⟩ E (stOf ts hs us) a w:=by
  refine ⟨hn,by rw [hD]; exact Marked.refl _ _ _ _,fun t _ => stOf_tmps ht t,⟨fun k o h => ?_,?_,?_,hlt,?_,Frm.refl w _⟩,En.Le.refl _ _ _,fun b hb => .inl hb⟩
  · obtain ⟨h1,h2⟩:=ho k o (stOf_heap h)
    exact ⟨stOf_used.2 h1,h2⟩
  · rintro j k ⟨oj,hj,lj⟩ ⟨ok,hk,lk⟩ he
    exact hinj j oj k ok (stOf_heap hj) (stOf_heap hk) lj lk he
  · rintro k ⟨o,hk,lk⟩
    exact (himm k o (stOf_heap hk) lk).1
  · rintro k ⟨o,hk,lk⟩
    exact .inl (himm k o (stOf_heap hk) lk).2
def obsR {β : Type} (P : Program) (n : Nat) (fn : Func) (S : St) (k : List SV → Tree β) : Tree β:=match resL P n S fn.results.toList with
  | some [.agg cs] => obsL cs k
  | some [s] => obsS (fun s => k [s]) s
  | _ => .fail 53
theorem obsR_holds {β : Type} {Q : β → Prop} {P : Program} {n : Nat} {fn : Func} {S : St} {k : List SV → Tree β} (h : (obsR P n fn S k).holds Q) : (∃ cs,resL P n S fn.results.toList = some [.agg cs] ∧ (k cs).holds Q) ∨ ∃ s,resL P n S fn.results.toList = some [s] ∧ (k [s]).holds Q:=by
  unfold obsR at h
  split at h
  · rename_i cs hr
    exact .inl ⟨cs,hr,obsL_holds _ _ h⟩
  · rename_i s _ hr
    exact .inr ⟨s,hr,obsS_holds (k:=fun s => k [s]) _ h⟩
  · exact h.elim
theorem start_sat {I : Nat → Prop} {w : World} {args : List SV} {vals : List Value} {n : Nat} (hI : ∀ b,I b → b < w.heap.size) (hn : args.length ≤ n) (hr : RepL (E0 I) noU w args vals) :
    SatE ⟨w,fun _ => False,E0 I,noU,n,[]⟩ (E0 I) (argSt args) { tmps:=vals.toArray ++ Array.replicate (n - vals.toArray.size) undef,defers:=[] } w:=by
  have hvl:=hr.length
  refine ⟨by simp; omega,Marked.refl _ _ _ _,fun t ht => ?_,HSat.start hI,En.Le.refl _ _ _,fun b hb => .inl hb⟩
  show Rep (E0 I) noU w (args.getD t (.tup [])) _
  rcases Nat.lt_or_ge t args.length with h | h
  · obtain ⟨v,hv,hrv⟩:=hr.get (i:=t) (c:=args[t]) (List.getElem?_eq_getElem h)
    rw [show args.getD t (.tup []) = args[t] from by simp [List.getD,List.getElem?_eq_getElem h]]
    have hlt : t < vals.length:=by omega
    have : (vals.toArray ++ Array.replicate (n - vals.toArray.size) undef).getD t undef = v:=by
      rw [List.getElem?_eq_getElem hlt] at hv
      have h1 : (vals.toArray ++ Array.replicate (n - vals.toArray.size) undef)[t]? = some v:=by
        rw [Array.getElem?_append_left (by simpa using hlt)]
        simpa [List.getElem?_eq_getElem hlt] using hv
      simp only [Array.getD_eq_getD_getElem?,h1,Option.getD_some]
    rw [this]; exact hrv
  · rw [show args.getD t (.tup []) = .tup [] from by simp [List.getD,List.getElem?_eq_none h]]
    have : (vals.toArray ++ Array.replicate (n - vals.toArray.size) undef).getD t undef = undef:=by
      have h1 : (vals.toArray ++ Array.replicate (n - vals.toArray.size) undef)[t]? = (Array.replicate (n - vals.toArray.size) undef)[t - vals.length]?:=by
        rw [Array.getElem?_append_right (by simpa using by omega)]
        simp
      simp only [Array.getD_eq_getD_getElem?,h1,Array.getElem?_replicate]
      split <;> rfl
    rw [this]
    exact undef_rep _ _ _
end Go.Sx
