/- Part 4 of a verified symbolic walk over the model's code: what it says of a function's code holds of every run of it. No condition. -/
import Derived.Test.YtfhomgggbhjglaaFw3
import Derived.ProofKit
import Derived.OpenShut
import Derived.WideKeyArgs
set_option linter.unusedVariables false
set_option linter.unusedSimpArgs false

namespace Go.Sx
open Go.RowKit
theorem apH_append (H : Hp) : ∀ (a b : List (Nat × Option Ob)),apH H (a ++ b) = apH (apH H b) a
  | [],b => rfl
  | (k,o) :: r,b => by
    funext j
    show (bif Nat.beq j k then o else apH H (r ++ b) j) = (bif Nat.beq j k then o else apH (apH H b) r j)
    rw [apH_append H r b]
theorem HSat.along {w0 w : World} {M M2 : Nat → Prop} {E E2 : En} {U U2 : Nat → Bool} {H H2 : Hp} (hs : HSat w0 M E U H w) (τ : Nat → Nat) (hI : E2.I = E.I) (hM : ∀ b,M b → M2 b)
    (h : ∀ k o,H2 k = some o → U2 k = true ∧ ObRep E2 U2 w k o ∧ (o.live E2 k → E2.ρ k = E.ρ (τ k) ∧ ∃ o',H (τ k) = some o' ∧ o'.live E (τ k)))
    (hinj : ∀ j k o o',H2 j = some o → H2 k = some o' → o.live E2 j → o'.live E2 k → τ j = τ k → j = k) (hf : Frm w0 M2 w) : HSat w0 M2 E2 U2 H2 w:=by
  have hlv : ∀ k,Live E2 H2 k → Live E H (τ k) ∧ E2.ρ k = E.ρ (τ k):=by
    rintro k ⟨o,ho,hl⟩
    obtain ⟨_,_,h3⟩:=h k o ho
    obtain ⟨h3,o',h4,h5⟩:=h3 hl
    exact ⟨⟨o',h4,h5⟩,h3⟩
  refine ⟨fun k o ho => ⟨(h k o ho).1,(h k o ho).2.1⟩,fun j k hj hk he => ?_,fun k hk => ?_,fun b hb => hs.lt b (hI ▸ hb),fun k hk => ?_,hf⟩
  · obtain ⟨h1,h2⟩:=hlv j hj
    obtain ⟨h3,h4⟩:=hlv k hk
    obtain ⟨o,ho,hl⟩:=hj
    obtain ⟨o',ho',hl'⟩:=hk
    exact hinj j k o o' ho ho' hl hl' (hs.inj _ _ h1 h3 (by rw [← h2,← h4]; exact he))
  · obtain ⟨h1,h2⟩:=hlv k hk
    rw [hI,h2]; exact hs.imm _ h1
  · obtain ⟨h1,h2⟩:=hlv k hk
    rw [h2]
    rcases hs.mine _ h1 with h | h
    · exact .inl (hM _ h)
    · exact .inr h
structure MOut where
  res : SV
  boxes : List (List SV)
  news : List Ob:=[]
def newBase : Nat:=100
def lookBx : List Nat → List (List SV) → Nat → Option Ob
  | i :: r,cs :: q,k => bif Nat.beq k i then some (.box cs) else lookBx r q k
  | _,_,_ => none
def lookNew : Nat → List Ob → Nat → Option Ob
  | i,o :: r,k => bif Nat.beq k i then some o else lookNew (i + 1) r k
  | _,[],_ => none
def lookFx : List Nat → List Ob → Nat → Option Ob
  | i :: r,o :: q,k => bif Nat.beq k i then some o else lookFx r q k
  | _,_,_ => none
def MOut.heap (o : MOut) (L : Lay) : Hp:=fun k => match lookBx (L.boxes.map (·.1)) o.boxes k with
  | some b => some b
  | none => match lookFx (fixIds L.shs) (o.news.take (fixIds L.shs).length) k with
    | some b => some b
    | none => lookNew newBase (o.news.drop (fixIds L.shs).length) k
def Lay.params (L : Lay) (x : L.den) : List SV:=(encL L.rb L.shs x).take L.slots.length
def MFnOk (P : Program) (f : FuncId) (L : Lay) (x : L.den) (o : MOut) : Prop :=
  ∀ (E : En) (w : World) (vals : List Value),HSat w (Mof E (L.st noU x).heap) E (L.st noU x).used (L.st noU x).heap w → RepL E (L.st noU x).used w (L.params x) vals →
    Calls P f vals.toArray w fun e w' => ∃ v,e = .returned v ∧ ∃ E' U',En.Le (L.st noU x).used U' E E' w w' ∧ HSat w (Mof E (L.st noU x).heap) E' U' (o.heap L) w' ∧ FreshI E E' (L.st noU x).heap w ∧ Rep E' U' w' o.res v
mutual
def renSV (f : Nat → Nat) : SV → SV
  | .ptr k o => .ptr (f k) o
  | .own k => .own (f k)
  | .oel k s i o => .oel (f k) s i o
  | .sub k s i j => .sub (f k) s i j
  | .bsl k n => .bsl (f k) n
  | .yld k => .yld (f k)
  | .mp k => .mp (f k)
  | .agg cs => .agg (renL f cs)
  | .tup cs => .tup (renL f cs)
  | .big cs => .big (renL f cs)
  | .fn g cs => .fn g (renL f cs)
  | s => s
def renL (f : Nat → Nat) : List SV → List SV
  | [] => []
  | c :: cs => renSV f c :: renL f cs
end
theorem ren_arr (f : Nat → Nat) (s : SV) : isArr (renSV f s) = isArr s:=by cases s <;> unfold renSV <;> rfl
theorem renL_mask (f : Nat → Nat) : ∀ cs : List SV,(renL f cs).map isArr = cs.map isArr
  | [] => by unfold renL; rfl
  | c :: cs => by unfold renL; rw [List.map_cons,List.map_cons,ren_arr,renL_mask f cs]
mutual
theorem ren_rep {E E2 : En} {U U2 : Nat → Bool} {w : World} {f : Nat → Nat} (hI : E2.I = E.I) : ∀ (s : SV) (v : Value),(∀ k ∈ idsOf s,U2 (f k) = true ∧ E2.ρ (f k) = E.ρ k ∧ E2.sv (f k) = E.sv k) → Rep E U w s v → Rep E2 U2 w (renSV f s) v
  | .ptr k o,v,h,hr => by
    obtain ⟨h1,h2,_⟩:=h k (by simp [idsOf])
    unfold renSV; unfold Rep at *
    exact ⟨h1,by rw [h2]; exact hr.2⟩
  | .own k,v,h,hr => by
    obtain ⟨h1,_,h2⟩:=h k (by simp [idsOf])
    unfold renSV; unfold Rep at *
    exact ⟨h1,by rw [h2]; exact hr.2.1,hr.2.2⟩
  | .oel k s i o,v,h,hr => by
    obtain ⟨h1,h2,_⟩:=h k (by simp [idsOf])
    unfold renSV; unfold Rep at *
    exact ⟨h1,by rw [h2]; exact hr.2⟩
  | .bsl k n,v,h,hr => by
    obtain ⟨h1,h2,_⟩:=h k (by simp [idsOf])
    unfold renSV; unfold Rep at *
    exact ⟨h1,by rw [h2]; exact hr.2⟩
  | .sub k s i j,v,h,hr => by
    obtain ⟨h1,_,h2⟩:=h k (by simp [idsOf])
    unfold renSV; unfold Rep at *
    exact ⟨h1,by rw [h2]; exact hr.2⟩
  | .yld k,v,h,hr => by
    obtain ⟨h1,h2,_⟩:=h k (by simp [idsOf])
    unfold renSV; unfold Rep at *
    exact ⟨h1,by rw [h2]; exact hr.2⟩
  | .mp k,v,h,hr => by
    obtain ⟨h1,h2,_⟩:=h k (by simp [idsOf])
    unfold renSV; unfold Rep at *
    exact ⟨h1,by rw [h2]; exact hr.2⟩
  | .agg cs,v,h,hr => by unfold renSV; unfold Rep at *; obtain ⟨vs,e,hl⟩:=hr; exact ⟨vs,e,ren_repL hI cs vs (fun k hk => h k (by simpa [idsOf] using hk)) hl⟩
  | .tup cs,v,h,hr => by unfold renSV; unfold Rep at *; obtain ⟨vs,e,hl⟩:=hr; exact ⟨vs,e,ren_repL hI cs vs (fun k hk => h k (by simpa [idsOf] using hk)) hl⟩
  | .fn g cs,v,h,hr => by unfold renSV; unfold Rep at *; obtain ⟨vs,e,hl⟩:=hr; exact ⟨vs,e,ren_repL hI cs vs (fun k hk => h k (by simpa [idsOf] using hk)) hl⟩
  | .big cs,v,h,hr => by
    unfold renSV; unfold Rep at *
    obtain ⟨vs,e,hl⟩:=hr
    exact ⟨vs,by rw [flatV_congr (renL_mask f cs)]; exact e,ren_repL hI cs vs (fun k hk => h k (by simpa [idsOf] using hk)) hl⟩
  | .arr t n l,v,_,hr => by unfold renSV; exact data_rep hI (.arr t n l) v rfl hr
  | .any,v,_,hr => by unfold renSV; exact data_rep hI .any v rfl hr
  | .int k n,v,_,hr => by unfold renSV; exact data_rep hI _ v rfl hr
  | .bool b,v,_,hr => by unfold renSV; exact data_rep hI _ v rfl hr
  | .str b,v,_,hr => by unfold renSV; exact data_rep hI _ v rfl hr
  | .sl t l,v,_,hr => by unfold renSV; exact data_rep hI _ v rfl hr
  | .osl t l,v,_,hr => by unfold renSV; exact data_rep hI _ v rfl hr
  | .nsl t l b,v,_,hr => by unfold renSV; exact data_rep hI _ v rfl hr
  | .adr t l,v,_,hr => by unfold renSV; exact data_rep hI _ v rfl hr
  | .nils,v,_,hr => by unfold renSV; exact data_rep hI _ v rfl hr
  | .nilp,v,_,hr => by unfold renSV; exact data_rep hI _ v rfl hr
theorem ren_repL {E E2 : En} {U U2 : Nat → Bool} {w : World} {f : Nat → Nat} (hI : E2.I = E.I) : ∀ (s : List SV) (v : List Value),(∀ k ∈ idsL s,U2 (f k) = true ∧ E2.ρ (f k) = E.ρ k ∧ E2.sv (f k) = E.sv k) → RepL E U w s v → RepL E2 U2 w (renL f s) v
  | [],_,_,h => by unfold renL; unfold RepL at *; exact h
  | c :: cs,_,hk,h => by
    unfold renL
    unfold RepL at *
    obtain ⟨v,r,e,h1,h2⟩:=h
    exact ⟨v,r,e,ren_rep hI c v (fun k hk' => hk k (by simp [idsL,hk'])) h1,ren_repL hI cs r (fun k hk' => hk k (by simp [idsL,hk'])) h2⟩
end
mutual
theorem renSV_id : ∀ s : SV,renSV (fun k => k) s = s
  | .agg cs => by unfold renSV; rw [renL_id cs]
  | .tup cs => by unfold renSV; rw [renL_id cs]
  | .fn g cs => by unfold renSV; rw [renL_id cs]
  | .big cs => by unfold renSV; rw [renL_id cs]
  | .arr _ _ _ => by unfold renSV; rfl
  | .sub _ _ _ _ | .bsl _ _ | .ptr _ _ | .own _ | .oel _ _ _ _ | .yld _ | .mp _ | .any | .int _ _ | .bool _ | .str _ | .sl _ _ | .osl _ _ | .nsl _ _ _ | .adr _ _ | .nils | .nilp => by unfold renSV; rfl
theorem renL_id : ∀ s : List SV,renL (fun k => k) s = s
  | [] => by unfold renL; rfl
  | c :: cs => by unfold renL; rw [renSV_id c,renL_id cs]
end
def dedup : List Nat → List Nat → List Nat
  | seen,[] => []
  | seen,k :: r => bif inL seen k then dedup seen r else k :: dedup (k :: seen) r
def idx : List Nat → Nat → Nat
  | [],_ => 0
  | j :: r,k => bif Nat.beq k j then 0 else idx r k + 1
def outCells (H : Hp) (ids : List Nat) : Nat → List Sh → List SV → Option (List SV × List (Option Nat × Ob))
  | _,[],[] => some ([],[])
  | i,.row e t :: r,v :: q => match v with
    | .own j => match H j with
      | some (.row e' t' l) => if Nat.beq e e' && Ty.beq t t' then match outCells H ids (i + 1) r q with
        | some (cs,ns) => some (.own (newBase + i) :: cs,(some j,.row e' t' l) :: ns)
        | none => none
        else none
      | _ => none
    | .nils => match outCells H ids (i + 1) r q with
      | some (cs,ns) => some (.own (newBase + i) :: cs,(none,.row e t []) :: ns)
      | none => none
    | _ => none
  | i,.rowk k _ _ :: r,v :: q => match v with
    | .own j => if Nat.beq j k && inL ids j then match outCells H ids i r q with
      | some (cs,ns) => some (.own j :: cs,ns)
      | none => none
      else none
    | _ => none
  | i,_ :: r,v :: q => if (idsOf (vw H v)).all (inL ids) then match outCells H ids i r q with
    | some (cs,ns) => some (vw H v :: cs,ns)
    | none => none
    else none
  | _,_,_ => none
theorem vw_mask (H : Hp) (s : SV) : isArr (vw H s) = isArr s:=by
  cases s with
  | own k =>
    unfold vw
    split <;> rfl
  | agg cs => unfold vw; rfl
  | tup cs => unfold vw; rfl
  | _ => unfold vw; rfl
theorem vwL_mask (H : Hp) : ∀ cs : List SV,(vwL H cs).map isArr = cs.map isArr
  | [] => by unfold vwL; rfl
  | c :: cs => by unfold vwL; rw [List.map_cons,List.map_cons,vw_mask,vwL_mask H cs]
theorem outCells_mask {H : Hp} {ids : List Nat} : ∀ {i : Nat} {shs : List Sh} {cs c : List SV} {ns : List (Option Nat × Ob)},outCells H ids i shs cs = some (c,ns) → c.map isArr = cs.map isArr
  | i,[],[],c,ns,h => by cases h; rfl
  | i,[],_ :: _,c,ns,h => by cases h
  | i,s :: r,[],c,ns,h => by cases s <;> cases h
  | i,s :: r,v :: q,c,ns,h => by
    have other : (if (idsOf (vw H v)).all (inL ids) then match outCells H ids i r q with
        | some (cs,ns) => some (vw H v :: cs,ns)
        | none => none
        else none) = some (c,ns) → c.map isArr = (v :: q).map isArr:=fun h => by
      split at h <;> try (cases h; done)
      split at h <;> try (cases h; done)
      rename_i cs' ns' h1
      cases h
      rw [List.map_cons,List.map_cons,vw_mask,outCells_mask h1]
    cases s with
    | row e t =>
      simp only [outCells] at h
      split at h <;> try (cases h; done)
      · split at h <;> try (cases h; done)
        split at h <;> try (cases h; done)
        split at h <;> try (cases h; done)
        rename_i cs' ns' h1
        cases h
        rw [List.map_cons,List.map_cons,outCells_mask h1]
        rfl
      · split at h <;> try (cases h; done)
        rename_i cs' ns' h1
        cases h
        rw [List.map_cons,List.map_cons,outCells_mask h1]
        rfl
    | rowk a e t =>
      cases v <;> simp only [outCells] at h <;> try (cases h; done)
      split at h <;> try (cases h; done)
      split at h <;> try (cases h; done)
      rename_i cs' ns' h1
      cases h
      rw [List.map_cons,List.map_cons,outCells_mask h1]
    | _ => exact other h
def outAll (H : Hp) (ids : List Nat) : Nat → List (Nat × List Sh) → Option (List (List SV) × List (Option Nat × Ob))
  | _,[] => some ([],[])
  | i,(k,shs) :: r => match H k with
    | some (.box cs) => match outCells H ids i shs cs with
      | some (c,ns) => match outAll H ids (i + ns.length) r with
        | some (bx,ms) => some (c :: bx,ns ++ ms)
        | none => none
      | none => none
    | _ => none
def frzC : List Sh → List SV → List Nat
  | .row _ _ :: r,_ :: q => frzC r q
  | .rowk _ _ _ :: r,_ :: q => frzC r q
  | _ :: r,v :: q => idsOf v ++ frzC r q
  | _,_ => []
def frzB (H : Hp) : List (Nat × List Sh) → List Nat
  | (k,shs) :: r => (match H k with
    | some (.box cs) => frzC shs cs
    | _ => []) ++ frzB H r
  | [] => []
def newOf (H : Hp) (k : Nat) : Option Ob :=
  match H k with
  | some (.box cs) => bif isDataL (vwL H cs) then some (.box (vwL H cs)) else none
  | some (.row e t l) => some (.row e t l)
  | some (.mp es) => some (.mp es)
  | _ => none
def newsAll (H : Hp) : List Nat → Option (List Ob)
  | [] => some []
  | k :: r => match newOf H k,newsAll H r with
    | some c,some q => some (c :: q)
    | _,_ => none
def cellIds (H : Hp) (k : Nat) : List Nat :=
  match H k with
  | some (.box cs) => idsL cs
  | _ => []
def somesL : List (Option Nat) → List Nat
  | some k :: r => k :: somesL r
  | none :: r => somesL r
  | [] => []
def newsOf : List (Option Nat × Ob) → List Ob → List Ob
  | [],ns => ns
  | (_,o) :: r,ns => o :: newsOf r ns
theorem newsOf_eq : ∀ (rows : List (Option Nat × Ob)) (ns : List Ob),newsOf rows ns = rows.map (·.2) ++ ns
  | [],ns => rfl
  | (_,o) :: r,ns => by rw [newsOf,newsOf_eq r ns]; rfl
def fixsAll (H : Hp) : List Nat → Option (List Ob)
  | [] => some []
  | k :: r => match H k,fixsAll H r with
    | some (.row e t l),some q => some (.row e t l :: q)
    | _,_ => none
def mRes (H : Hp) (bs : List (Nat × List Sh)) (fids : List Nat) (own : Bool) (r : SV) : Tree MOut :=
  let ids:=bs.map (·.1) ++ fids
  let r':=bif own then r else vw H r
  let ks:=dedup ids (idsOf r')
  match outAll H ids 0 bs,newsAll H ks,fixsAll H fids with
  | some (bx,rows),some ns,some fx =>
    let fz:=(bif own then [] else idsOf r) ++ (frzB H bs ++ ks.flatMap (cellIds H))
    let so:=somesL (rows.map (·.1) ++ ks.map some)
    bif (so.all fun k => !inL fz k && !inL ids k) && nodupB so && (fids.all fun k => !inL fz k) && Nat.ble (rows.length + ks.length) 1000 then
      .leaf ⟨renSV (fun k => bif inL ids k then k else newBase + (rows.length + idx ks k)) r',bx,fx ++ newsOf rows ns⟩
    else .fail 51
  | _,_,_ => .fail 52
def mLeaf (P : Program) (fn : Func) (n : Nat) (L : Lay) (own : Bool) (e : Exit) (S : St) : Tree MOut :=
  match resL P n S fn.results.toList with
  | some ss => match e with
    | .normal => mRes S.heap L.boxes (fixIds L.shs) own (resSV ss)
    | .ret => mRes S.heap L.boxes (fixIds L.shs) own (resSV ss)
    | _ => .fail 12
  | none => .fail 11
def mTree {P : Program} (cx : List (GC P)) (lp : Nat → Option LRun) (fn : Func) (L : Lay) (own : Bool) (x : L.den) : Tree MOut :=
  match fn.body with
  | some c => if Nat.ble L.slots.length fn.ntmps then execC cx lp [] fn.ntmps 0 c ⟨fun t => (L.params x).getD t (.tup []),(L.st noU x).heap,(L.st noU x).used⟩ (fun _ => none) (fun e S _ => mLeaf P fn fn.ntmps L own e S) else .fail 13
  | none => .fail 14
end Go.Sx
namespace Go.Sx
open Go.RowKit
theorem dedup_all : ∀ {l seen : List Nat} {k : Nat},k ∈ l → k ∈ seen ∨ k ∈ dedup seen l
  | j :: r,seen,k,h => by
    simp only [dedup]
    cases hb : inL seen j with
    | true =>
      rw [cond_true]
      rcases List.mem_cons.1 h with rfl | h
      · exact .inl (inL_iff.1 hb)
      · exact dedup_all h
    | false =>
      rw [cond_false]
      rcases List.mem_cons.1 h with rfl | h
      · exact .inr (by simp)
      · rcases dedup_all (seen:=j :: seen) h with h | h
        · rcases List.mem_cons.1 h with rfl | h
          · exact .inr (by simp)
          · exact .inl h
        · exact .inr (List.mem_cons_of_mem _ h)
theorem idx_get : ∀ {ks : List Nat} {k : Nat},k ∈ ks → ks[idx ks k]? = some k
  | j :: r,k,h => by
    simp only [idx,beq_iff']
    by_cases e : k = j
    · subst e; simp
    · simp only [e,decide_false,cond_false]
      rcases List.mem_cons.1 h with rfl | h
      · exact absurd rfl e
      · simpa using idx_get h
theorem lookNew_get : ∀ {ns : List Ob} {i k : Nat} {o : Ob},lookNew i ns k = some o → ∃ j,k = i + j ∧ ns[j]? = some o
  | p :: r,i,k,o,h => by
    simp only [lookNew,beq_iff'] at h
    by_cases e : k = i
    · subst e
      simp only [decide_true,cond_true,Option.some.injEq] at h
      exact ⟨0,by simp,by simp [h]⟩
    · simp only [e,decide_false,cond_false] at h
      obtain ⟨j,h1,h2⟩:=lookNew_get h
      exact ⟨j + 1,by omega,by simpa using h2⟩
theorem newsAll_get {H : Hp} : ∀ {ks : List Nat} {ns : List Ob} {j : Nat} {o : Ob},newsAll H ks = some ns → ns[j]? = some o → ∃ k,ks[j]? = some k ∧ newOf H k = some o
  | [],ns,j,o,h,hj => by cases h; simp at hj
  | k :: r,ns,j,o,h,hj => by
    simp only [newsAll] at h
    split at h <;> try (cases h; done)
    rename_i c q h1 h2
    cases h
    cases j with
    | zero => simp at hj; subst hj; exact ⟨k,rfl,h1⟩
    | succ j => simpa using newsAll_get h2 (j:=j) (by simpa using hj)
theorem newsAll_length {H : Hp} : ∀ {ks : List Nat} {ns : List Ob},newsAll H ks = some ns → ns.length = ks.length
  | [],ns,h => by cases h; rfl
  | k :: r,ns,h => by
    simp only [newsAll] at h
    split at h <;> try (cases h; done)
    rename_i c q h1 h2
    cases h
    simp [newsAll_length h2]
def RowFrom (H : Hp) (p : Option Nat × Ob) : Prop:=∃ e t l,p.2 = .row e t l ∧ ((∃ k,p.1 = some k ∧ H k = some (.row e t l)) ∨ (p.1 = none ∧ l = []))
theorem outCells_rows {H : Hp} {ids : List Nat} : ∀ {i : Nat} {shs : List Sh} {cs c : List SV} {ns : List (Option Nat × Ob)},outCells H ids i shs cs = some (c,ns) → ∀ p ∈ ns,RowFrom H p
  | i,[],[],c,ns,h => by cases h; intro p hp; cases hp
  | i,[],_ :: _,c,ns,h => by cases h
  | i,s :: r,[],c,ns,h => by cases s <;> cases h
  | i,.row e t :: r,v :: q,c,ns,h => by
    cases v <;> simp only [outCells] at h <;> try (cases h; done)
    · split at h <;> try (cases h; done)
      rename_i e' t' l hj
      split at h <;> try (cases h; done)
      split at h <;> try (cases h; done)
      rename_i cs' ns' hr
      cases h
      intro p hp
      rcases List.mem_cons.1 hp with rfl | hp
      · exact ⟨_,_,_,rfl,.inl ⟨_,rfl,hj⟩⟩
      · exact outCells_rows hr p hp
    · split at h <;> try (cases h; done)
      rename_i cs' ns' hr
      cases h
      intro p hp
      rcases List.mem_cons.1 hp with rfl | hp
      · exact ⟨_,_,_,rfl,.inr ⟨rfl,rfl⟩⟩
      · exact outCells_rows hr p hp
  | i,.val _ :: r,v :: q,c,ns,h => by
    simp only [outCells] at h
    split at h <;> try (cases h; done)
    split at h <;> try (cases h; done)
    rename_i hr; cases h; exact outCells_rows hr
  | i,.agg _ :: r,v :: q,c,ns,h => by
    simp only [outCells] at h
    split at h <;> try (cases h; done)
    split at h <;> try (cases h; done)
    rename_i hr; cases h; exact outCells_rows hr
  | i,.ptr _ _ :: r,v :: q,c,ns,h => by
    simp only [outCells] at h
    split at h <;> try (cases h; done)
    split at h <;> try (cases h; done)
    rename_i hr; cases h; exact outCells_rows hr
  | i,.fn _ :: r,v :: q,c,ns,h => by
    simp only [outCells] at h
    split at h <;> try (cases h; done)
    split at h <;> try (cases h; done)
    rename_i hr; cases h; exact outCells_rows hr
  | i,.clo _ _ :: r,v :: q,c,ns,h => by
    simp only [outCells] at h
    split at h <;> try (cases h; done)
    split at h <;> try (cases h; done)
    rename_i hr; cases h; exact outCells_rows hr
  | i,.yld _ :: r,v :: q,c,ns,h => by
    simp only [outCells] at h
    split at h <;> try (cases h; done)
    split at h <;> try (cases h; done)
    rename_i hr; cases h; exact outCells_rows hr
  | i,.arr _ _ :: r,v :: q,c,ns,h => by
    simp only [outCells] at h
    split at h <;> try (cases h; done)
    split at h <;> try (cases h; done)
    rename_i hr; cases h; exact outCells_rows hr
  | i,.adr _ :: r,v :: q,c,ns,h => by
    simp only [outCells] at h
    split at h <;> try (cases h; done)
    split at h <;> try (cases h; done)
    rename_i hr; cases h; exact outCells_rows hr
  | i,.nils :: r,v :: q,c,ns,h => by
    simp only [outCells] at h
    split at h <;> try (cases h; done)
    split at h <;> try (cases h; done)
    rename_i hr; cases h; exact outCells_rows hr
  | i,.any :: r,v :: q,c,ns,h => by
    simp only [outCells] at h
    split at h <;> try (cases h; done)
    split at h <;> try (cases h; done)
    rename_i hr; cases h; exact outCells_rows hr
  | i,.oval _ :: r,v :: q,c,ns,h => by
    simp only [outCells] at h
    split at h <;> try (cases h; done)
    split at h <;> try (cases h; done)
    rename_i hr; cases h; exact outCells_rows hr
  | i,.rowk _ _ _ :: r,v :: q,c,ns,h => by
    cases v <;> simp only [outCells] at h <;> try (cases h; done)
    split at h <;> try (cases h; done)
    split at h <;> try (cases h; done)
    rename_i hr; cases h; exact outCells_rows hr
theorem outCells_plain {H : Hp} {ids : List Nat} {i : Nat} {s : Sh} {r : List Sh} {v : SV} {q c : List SV} {ns : List (Option Nat × Ob)} (hs : ∀ e t,s ≠ .row e t) (hs' : ∀ k e t,s ≠ .rowk k e t) (h : outCells H ids i (s :: r) (v :: q) = some (c,ns)) :
    (idsOf (vw H v)).all (inL ids) = true ∧ ∃ cs,outCells H ids i r q = some (cs,ns) ∧ c = vw H v :: cs ∧ ∀ k ∈ idsOf v,k ∈ frzC (s :: r) (v :: q):=by
  cases s with
  | row e t => exact absurd rfl (hs e t)
  | rowk k e t => exact absurd rfl (hs' k e t)
  | _ =>
    simp only [outCells] at h
    split at h <;> try (cases h; done)
    rename_i ha
    split at h <;> try (cases h; done)
    rename_i hr
    cases h
    exact ⟨ha,_,hr,rfl,fun k hk => List.mem_append_left _ hk⟩
theorem frzC_tail {s : Sh} {r : List Sh} {v : SV} {q : List SV} {k : Nat} (h : k ∈ frzC r q) : k ∈ frzC (s :: r) (v :: q):=by
  cases s with
  | row e t => exact h
  | rowk k e t => exact h
  | _ => exact List.mem_append_right _ h
theorem outCells_rep {w0 w : World} {M : Nat → Prop} {E1 E2 : En} {U U2 : Nat → Bool} {H H1 : Hp} {ids : List Nat} (hs1 : HSat w0 M E1 U H1 w) (hI : E2.I = E1.I) (hids : ∀ k ∈ ids,U2 k = true ∧ E2.ρ k = E1.ρ k ∧ E2.sv k = E1.sv k) :
    ∀ {shs : List Sh} {i : Nat} {cs c : List SV} {ns : List (Option Nat × Ob)} {vs : List Value},outCells H ids i shs cs = some (c,ns) → (∀ k ∈ frzC shs cs,H1 k = frzOb (H k)) →
      (∀ j p,ns[j]? = some p → U2 (newBase + (i + j)) = true ∧ E2.sv (newBase + (i + j)) = match p.1 with | some k => E1.sv k | none => .slice none 0 0) → RepL E1 U w cs vs → RepL E2 U2 w c vs
  | [],i,[],c,ns,vs,h,_,_,hr => by cases h; unfold RepL at *; exact hr
  | [],i,_ :: _,c,ns,vs,h,_,_,_ => by cases h
  | s :: r,i,[],c,ns,vs,h,_,_,_ => by cases s <;> cases h
  | s :: r,i,v :: q,c,ns,vs,h,hf,hn,hr => by
    unfold RepL at hr
    obtain ⟨u,us,rfl,h1,h2⟩:=hr
    have plain : (∀ e t,s ≠ .row e t) → (∀ k e t,s ≠ .rowk k e t) → RepL E2 U2 w c (u :: us):=by
      intro hs hs'
      obtain ⟨ha,cs,hr,rfl,hk⟩:=outCells_plain hs hs' h
      have hv:=vw_rep (H:=H) hs1 v u (fun k hkk => hf k (hk k hkk)) h1
      have hv2:=ren_rep (E:=E1) (E2:=E2) (U2:=U2) (f:=fun k => k) hI (vw H v) u (fun k hkk => hids k (inL_iff.1 (List.all_eq_true.1 ha k hkk))) hv
      rw [renSV_id] at hv2
      exact RepL.cons hv2 (outCells_rep hs1 hI hids hr (fun k hkk => hf k (frzC_tail hkk)) hn h2)
    cases s with
    | row e t =>
      cases v <;> simp only [outCells] at h <;> try (cases h; done)
      · split at h <;> try (cases h; done)
        rename_i k e' t' l hj
        split at h <;> try (cases h; done)
        split at h <;> try (cases h; done)
        rename_i cs' ns' hr
        cases h
        have h0:=hn 0 _ rfl
        refine RepL.cons ?_ (outCells_rep hs1 hI hids hr hf (fun j p hj => by have:=hn (j + 1) p hj; rwa [show i + (j + 1) = i + 1 + j by omega] at this) h2)
        unfold Rep at h1 ⊢
        exact ⟨h0.1,by rw [h1.2.1]; exact h0.2.symm,h1.2.2⟩
      · split at h <;> try (cases h; done)
        rename_i cs' ns' hr
        cases h
        have h0:=hn 0 _ rfl
        refine RepL.cons ?_ (outCells_rep hs1 hI hids hr hf (fun j p hj => by have:=hn (j + 1) p hj; rwa [show i + (j + 1) = i + 1 + j by omega] at this) h2)
        unfold Rep at h1 ⊢
        subst h1
        exact ⟨h0.1,h0.2.symm,_,_,_,rfl⟩
    | val t => exact plain (fun _ _ h => by cases h) (fun _ _ _ h => by cases h)
    | agg t => exact plain (fun _ _ h => by cases h) (fun _ _ _ h => by cases h)
    | ptr k o => exact plain (fun _ _ h => by cases h) (fun _ _ _ h => by cases h)
    | fn f => exact plain (fun _ _ h => by cases h) (fun _ _ _ h => by cases h)
    | clo f ks => exact plain (fun _ _ h => by cases h) (fun _ _ _ h => by cases h)
    | yld k => exact plain (fun _ _ h => by cases h) (fun _ _ _ h => by cases h)
    | arr t n => exact plain (fun _ _ h => by cases h) (fun _ _ _ h => by cases h)
    | adr t => exact plain (fun _ _ h => by cases h) (fun _ _ _ h => by cases h)
    | nils => exact plain (fun _ _ h => by cases h) (fun _ _ _ h => by cases h)
    | any => exact plain (fun _ _ h => by cases h) (fun _ _ _ h => by cases h)
    | oval t => exact plain (fun _ _ h => by cases h) (fun _ _ _ h => by cases h)
    | rowk a e t =>
      cases v <;> simp only [outCells] at h <;> try (cases h; done)
      rename_i j
      split at h <;> try (cases h; done)
      rename_i hj
      split at h <;> try (cases h; done)
      rename_i cs' ns' hr
      cases h
      rw [Bool.and_eq_true] at hj
      obtain ⟨g1,g2,g3⟩:=hids j (inL_iff.1 hj.2)
      refine RepL.cons ?_ (outCells_rep hs1 hI hids hr (fun k hkk => hf k (frzC_tail hkk)) hn h2)
      unfold Rep at h1 ⊢
      exact ⟨g1,by rw [g3]; exact h1.2.1,h1.2.2⟩
theorem outAll_rows {H : Hp} {ids : List Nat} : ∀ {bs : List (Nat × List Sh)} {i : Nat} {bx : List (List SV)} {rows : List (Option Nat × Ob)},outAll H ids i bs = some (bx,rows) → ∀ p ∈ rows,RowFrom H p
  | [],i,bx,rows,h => by cases h; intro p hp; cases hp
  | (k,shs) :: r,i,bx,rows,h => by
    simp only [outAll] at h
    split at h <;> try (cases h; done)
    split at h <;> try (cases h; done)
    rename_i c ns hc
    split at h <;> try (cases h; done)
    rename_i bx' ms hr
    cases h
    intro p hp
    rcases List.mem_append.1 hp with hp | hp
    · exact outCells_rows hc p hp
    · exact outAll_rows hr p hp
theorem outAll_box {H : Hp} {ids : List Nat} : ∀ {bs : List (Nat × List Sh)} {i : Nat} {bx : List (List SV)} {rows : List (Option Nat × Ob)} {k : Nat} {b : Ob},outAll H ids i bs = some (bx,rows) → lookBx (bs.map (·.1)) bx k = some b →
    ∃ i' shs cs c ns,k ∈ bs.map (·.1) ∧ H k = some (.box cs) ∧ outCells H ids (i + i') shs cs = some (c,ns) ∧ b = .box c ∧ (∀ j p,ns[j]? = some p → rows[i' + j]? = some p) ∧ (∀ m ∈ frzC shs cs,m ∈ frzB H bs)
  | [],i,bx,rows,k,b,h,hb => by cases h; cases hb
  | (k0,shs) :: r,i,bx,rows,k,b,h,hb => by
    simp only [outAll] at h
    split at h <;> try (cases h; done)
    rename_i cs hcs
    split at h <;> try (cases h; done)
    rename_i c ns hc
    split at h <;> try (cases h; done)
    rename_i bx' ms hr
    cases h
    simp only [List.map_cons,lookBx,beq_iff'] at hb
    by_cases e : k = k0
    · subst e
      simp only [decide_true,cond_true,Option.some.injEq] at hb
      refine ⟨0,shs,cs,c,ns,by simp,hcs,hc,hb.symm,fun j p hj => ?_,fun m hm => ?_⟩
      · have hlt:=(List.getElem?_eq_some_iff.1 hj).1
        rw [Nat.zero_add,List.getElem?_append_left hlt]; exact hj
      · simp only [frzB,hcs]; exact List.mem_append_left _ hm
    · simp only [e,decide_false,cond_false] at hb
      obtain ⟨i',shs',cs',c',ns',h1,h2,h3,h4,h5,h6⟩:=outAll_box hr hb
      refine ⟨ns.length + i',shs',cs',c',ns',List.mem_cons_of_mem _ h1,h2,by rw [← Nat.add_assoc]; exact h3,h4,fun j p hj => ?_,fun m hm => ?_⟩
      · rw [List.getElem?_append_right (by omega),show ns.length + i' + j - ns.length = i' + j by omega]
        exact h5 j p hj
      · simp only [frzB]; exact List.mem_append_right _ (h6 m hm)
theorem somes_inj : ∀ {l : List (Option Nat)} {i j k : Nat},(somesL l).Nodup → l[i]? = some (some k) → l[j]? = some (some k) → i = j
  | [],i,j,k,_,h,_ => by simp at h
  | none :: r,i,j,k,hn,hi,hj => by
    cases i with
    | zero => simp at hi
    | succ i => cases j with
      | zero => simp at hj
      | succ j => rw [somes_inj (l:=r) (i:=i) (j:=j) (k:=k) hn (by simpa using hi) (by simpa using hj)]
  | some a :: r,i,j,k,hn,hi,hj => by
    simp only [somesL,List.nodup_cons] at hn
    have mem : ∀ {l : List (Option Nat)} {i k : Nat},l[i]? = some (some k) → k ∈ somesL l:=by
      intro l
      induction l with
      | nil => intro i k h; simp at h
      | cons b l ih =>
        intro i k h
        cases i with
        | zero => simp at h; subst h; simp [somesL]
        | succ i =>
          have:=ih (i:=i) (k:=k) (by simpa using h)
          cases b <;> simp [somesL,this]
    cases i with
    | zero => cases j with
      | zero => rfl
      | succ j =>
        simp at hi; subst hi
        exact absurd (mem (by simpa using hj)) hn.1
    | succ i => cases j with
      | zero =>
        simp at hj; subst hj
        exact absurd (mem (by simpa using hi)) hn.1
      | succ j => rw [somes_inj (l:=r) (i:=i) (j:=j) (k:=k) hn.2 (by simpa using hi) (by simpa using hj)]
theorem somes_mem : ∀ {l : List (Option Nat)} {i k : Nat},l[i]? = some (some k) → k ∈ somesL l
  | [],i,k,h => by simp at h
  | b :: l,i,k,h => by
    cases i with
    | zero => simp at h; subst h; simp [somesL]
    | succ i =>
      have:=somes_mem (l:=l) (i:=i) (k:=k) (by simpa using h)
      cases b <;> simp [somesL,this]
theorem rowIds_ge : ∀ {i : Nat} {l : List Sh} {k : Nat},k ∈ rowIds i l → i ≤ k
  | i,[],k,h => by cases h
  | i,.row _ _ :: r,k,h => by
    rcases List.mem_cons.1 h with rfl | h
    · exact Nat.le_refl _
    · have:=rowIds_ge h; omega
  | i,.val _ :: r,k,h => by have:=rowIds_ge (i:=i + 1) (l:=r) h; omega
  | i,.agg _ :: r,k,h => by have:=rowIds_ge (i:=i + 1) (l:=r) h; omega
  | i,.ptr _ _ :: r,k,h => by have:=rowIds_ge (i:=i + 1) (l:=r) h; omega
  | i,.fn _ :: r,k,h => by have:=rowIds_ge (i:=i + 1) (l:=r) h; omega
  | i,.clo _ _ :: r,k,h => by have:=rowIds_ge (i:=i + 1) (l:=r) h; omega
  | i,.yld _ :: r,k,h => by have:=rowIds_ge (i:=i + 1) (l:=r) h; omega
  | i,.arr _ _ :: r,k,h => by have:=rowIds_ge (i:=i + 1) (l:=r) h; omega
  | i,.adr _ :: r,k,h => by have:=rowIds_ge (i:=i + 1) (l:=r) h; omega
  | i,.nils :: r,k,h => by have:=rowIds_ge (i:=i + 1) (l:=r) h; omega
  | i,.any :: r,k,h => by have:=rowIds_ge (i:=i + 1) (l:=r) h; omega
  | i,.oval _ :: r,k,h => by have:=rowIds_ge (i:=i + 1) (l:=r) h; omega
  | i,.rowk _ _ _ :: r,k,h => by have:=rowIds_ge (i:=i + 1) (l:=r) h; omega
def Lay.mok (L : Lay) : Bool:=Nat.ble rowBase L.rb && L.recs.isEmpty && (L.boxes.all fun b => Nat.blt b.1 newBase) && (fixIds L.shs).all fun k => Nat.blt k newBase
theorem nodupB_iff : ∀ {l : List Nat},nodupB l = true → l.Nodup
  | [],_ => List.nodup_nil
  | k :: r,h => by
    simp only [nodupB,Bool.and_eq_true,Bool.not_eq_true'] at h
    rw [List.nodup_cons]
    exact ⟨fun hm => (by rw [inL_iff.2 hm] at h; cases h.1),nodupB_iff h.2⟩
theorem fixsAll_length {H : Hp} : ∀ {ks : List Nat} {fx : List Ob},fixsAll H ks = some fx → fx.length = ks.length
  | [],fx,h => by cases h; rfl
  | k :: r,fx,h => by
    simp only [fixsAll] at h
    split at h <;> try (cases h; done)
    rename_i q _ hq
    cases h
    rw [List.length_cons,List.length_cons,fixsAll_length hq]
theorem fixsAll_get {H : Hp} : ∀ {ks : List Nat} {fx : List Ob} {k : Nat} {b : Ob},fixsAll H ks = some fx → lookFx ks fx k = some b → k ∈ ks ∧ H k = some b ∧ ∃ e t l,b = .row e t l
  | [],fx,k,b,h,hb => by cases h; cases hb
  | k0 :: r,fx,k,b,h,hb => by
    simp only [fixsAll] at h
    split at h <;> try (cases h; done)
    rename_i e t l q hr hq
    cases h
    simp only [lookFx,beq_iff'] at hb
    by_cases hk : k = k0
    · simp only [hk,decide_true,cond_true,Option.some.injEq] at hb
      subst hb
      exact ⟨by rw [hk]; exact List.mem_cons_self,by rw [hk]; exact hr,e,t,l,rfl⟩
    · simp only [hk,decide_false,cond_false] at hb
      obtain ⟨h1,h2⟩:=fixsAll_get hq hb
      exact ⟨List.mem_cons_of_mem _ h1,h2⟩
theorem m_ok {P : Program} (hm : P.follows .mixedOrders = true) {cx : List (GC P)} {lps : List (Nat × LRun)} {f : FuncId} {fn : Func} (hf : P.funcs[f]? = some fn) {L : Lay} {own : Bool} {x : L.den} {o : MOut} (hok : L.mok = true) (hn : nodupB ((loopsOf 0 (bodyOf fn)).map (·.1)) = true)
    (hl : ∀ q ∈ lps,LoopOk P [] fn.ntmps none (L.st noU x).used (loopC (bodyOf fn) q.1) q.2) {T : Tree MOut} (ht : mTree cx (lpOf lps) fn L own x = T) (h : T.holds fun s => s = o) : MFnOk P f L x o:=by
  intro E w vals hH hr
  subst ht
  simp only [Lay.mok,Bool.and_eq_true,List.isEmpty_iff,List.all_eq_true] at hok
  obtain ⟨⟨⟨hrb,hrecs⟩,hlow⟩,hflow⟩:=hok
  have hrb:=Nat.le_of_ble_eq_true hrb
  unfold rowBase at hrb
  unfold mTree at h
  split at h
  · rename_i c hc
    split at h
    · rename_i hnt
      have hnt':=Nat.le_of_ble_eq_true hnt
      have e : bodyOf fn = c:=by unfold bodyOf; rw [hc]
      rw [e] at hn hl
      have hvl:=hr.length
      have hpl : (L.params x).length ≤ L.slots.length:=by unfold Lay.params; rw [List.length_take]; omega
      let B : Bs:=⟨w,Mof E (L.st noU x).heap,E,(L.st noU x).used,fn.ntmps,[]⟩
      have hsat : Sat B ⟨fun t => (L.params x).getD t (.tup []),(L.st noU x).heap,(L.st noU x).used⟩ { tmps:=vals.toArray ++ Array.replicate (fn.ntmps - vals.toArray.size) undef,defers:=[] } w :=
        ⟨E,by simp [B]; omega,Marked.refl _ _ _ _,fun t _ => args_rep hr _ t,hH,En.Le.refl _ _ _,fun b hb => .inl hb⟩
      refine (callsIn_wide (n:=0)).1 (callsIn_of_wp_marks (F:=FR none) hf hc trivial ?_ rfl)
      refine execC_ok hm (r0:=none) (u0:=(L.st noU x).used) (B:=B) (fun k hk => hk) (fun h hh => by cases hh) c 0 _ _ _ _ (loopsOk_lp hn hl) (kInv_none _ _) h ?_ _ w hsat
      intro e S' K' a' w' _ hs' hk
      have fin : ∀ ss,resL P fn.ntmps S' fn.results.toList = some ss → (mRes S'.heap L.boxes (fixIds L.shs) own (resSV ss)).holds (fun s => s = o) → LeavesInM (FR none) 0 P fn a'.tmps (fun e w' => ∃ v,e = .returned v ∧ ∃ E' U',En.Le (L.st noU x).used U' E E' w w' ∧ HSat w (Mof E (L.st noU x).heap) E' U' (o.heap L) w' ∧ FreshI E E' (L.st noU x).heap w ∧ Rep E' U' w' o.res v) a'.defers .returning w':=by
        intro ss hss hk
        obtain ⟨E0,hsE⟩:=hs'
        obtain ⟨ds,hds,hnd,hd⟩:=hsE.defers
        replace hds : a'.defers = ds.map mark:=by rw [hds]; exact List.append_nil _
        have hs3:=SatE.shut (B:=B) ds hnd w' ⟨hsE.size,Marked.refl _ _ _ _,hsE.tmps,hsE.heap,hsE.le,hsE.fresh⟩ hd
        rw [hds]
        refine leaves_marks ds hnd w' (fun d hm => (hd d hm).2.1) ?_
        generalize ds.foldl (fun w d => w.putObj d (.deferred none)) w' = w3 at hs3
        obtain ⟨v,hrun,hrep⟩:=results_ok (fn:=fn) hs3 hss
        refine ⟨v,hrun,v,rfl,?_⟩
        unfold mRes at hk
        simp only [newsOf_eq] at hk
        generalize hids : L.boxes.map (·.1) ++ fixIds L.shs = ids at hk
        generalize hr' : (bif own then resSV ss else vw S'.heap (resSV ss)) = r' at hk
        generalize hks : dedup ids (idsOf r') = ks at hk
        split at hk
        · rename_i bx rows ns fx hbx hns hfx
          generalize hfz : (bif own then [] else idsOf (resSV ss)) ++ (frzB S'.heap L.boxes ++ ks.flatMap (cellIds S'.heap)) = fz at hk
          generalize hsrc : rows.map (·.1) ++ ks.map some = src at hk
          cases hcond : (((somesL src).all fun k => !inL fz k && !inL ids k) && nodupB (somesL src) && ((fixIds L.shs).all fun k => !inL fz k) && Nat.ble (rows.length + ks.length) 1000) with
          | false => rw [hcond] at hk; exact hk.elim
          | true =>
          rw [hcond,cond_true] at hk
          have ho : _ = o:=hk
          simp only [Bool.and_eq_true,List.all_eq_true,Bool.not_eq_true'] at hcond
          obtain ⟨⟨⟨hsfz,hnod⟩,hffz⟩,hkl⟩:=hcond
          have hfl:=fixsAll_length hfx
          have hkl':=Nat.le_of_ble_eq_true hkl
          have hnod:=nodupB_iff hnod
          have hN : src.length = rows.length + ks.length:=by rw [← hsrc]; simp
          have hnl:=newsAll_length hns
          obtain ⟨E1,hle1,hs1,hfr⟩:=hs3.heap.freezeAll fz E0 S'.heap
          generalize hH1 : (fun k => if k ∈ fz then frzOb (S'.heap k) else S'.heap k) = H1 at hs1
          have hH1' : ∀ k,H1 k = if k ∈ fz then frzOb (S'.heap k) else S'.heap k:=fun k => by rw [← hH1]
          let τ : Nat → Nat:=fun k => if newBase ≤ k ∧ k - newBase < src.length then (src.getD (k - newBase) none).getD 0 else k
          let E' : En:=⟨fun k => E1.ρ (τ k),fun k => if newBase ≤ k ∧ k - newBase < src.length then (match src.getD (k - newBase) none with | some j => E1.sv j | none => .slice none 0 0) else E1.sv k,E1.I,fun k => E1.rc k⟩
          let U' : Nat → Bool:=fun k => (L.st noU x).used k || (Nat.ble newBase k && Nat.blt (k - newBase) src.length)
          have hidlow : ∀ k ∈ ids,k < newBase:=fun k hk => by
            rw [← hids] at hk
            rcases List.mem_append.1 hk with hk | hk
            · obtain ⟨b,hb,rfl⟩:=List.mem_map.1 hk
              simpa [Nat.blt_eq] using hlow b hb
            · simpa [Nat.blt_eq] using hflow k hk
          have hused : ∀ k,(L.st noU x).used k = true ↔ (k ∈ ids ∨ k ∈ rowIds L.rb L.shs):=fun k => by
            show usd noU (L.ids ++ rowIds L.rb L.shs) k = true ↔ _
            unfold usd
            simp only [Lay.ids,hrecs,List.map_nil,List.append_nil,Bool.false_or]
            rw [inL_iff,List.mem_append,hids]
          have hold : ∀ k,(L.st noU x).used k = true → ¬ (newBase ≤ k ∧ k - newBase < src.length):=fun k hk h => by
            rcases (hused k).1 hk with h1 | h1
            · have:=hidlow k h1; omega
            · have:=rowIds_ge h1
              unfold newBase at h
              omega
          have hUid : ∀ k ∈ ids,(L.st noU x).used k = true:=fun k hk => (hused k).2 (.inl hk)
          have hτlow : ∀ k ∈ ids,τ k = k:=fun k hk => by
            simp only [τ]
            rw [if_neg (hold k (hUid k hk))]
          have hτ : ∀ j k,src[j]? = some (some k) → τ (newBase + j) = k ∧ E'.sv (newBase + j) = E1.sv k:=fun j k hj => by
            have hlt : j < src.length:=(List.getElem?_eq_some_iff.1 hj).1
            have hg : src.getD j none = some k:=by simp [List.getD,hj]
            have hc : newBase ≤ newBase + j ∧ newBase + j - newBase < src.length:=⟨by omega,by omega⟩
            have e : newBase + j - newBase = j:=by omega
            refine ⟨?_,?_⟩
            · simp only [τ]
              rw [if_pos hc,e,hg]; rfl
            · show (if _ then _ else _) = _
              rw [if_pos hc,e,hg]
          have hτn : ∀ j,src[j]? = some none → E'.sv (newBase + j) = .slice none 0 0:=fun j hj => by
            have hlt : j < src.length:=(List.getElem?_eq_some_iff.1 hj).1
            have hg : src.getD j none = none:=by simp [List.getD,hj]
            have hc : newBase ≤ newBase + j ∧ newBase + j - newBase < src.length:=⟨by omega,by omega⟩
            have e : newBase + j - newBase = j:=by omega
            show (if _ then _ else _) = _
            rw [if_pos hc,e,hg]
          have hnewU : ∀ j,j < src.length → U' (newBase + j) = true:=fun j hj => by
            have e : newBase + j - newBase = j:=by omega
            simp [U',e,hj,Nat.blt_eq]
          have hsrcR : ∀ (j : Nat) (p : Option Nat × Ob),rows[j]? = some p → src[j]? = some p.1:=fun j p hj => by
            have hlt:=(List.getElem?_eq_some_iff.1 hj).1
            rw [← hsrc,List.getElem?_append_left (by simpa using hlt),List.getElem?_map,hj]; rfl
          have hsrcK : ∀ j k,ks[j]? = some k → src[rows.length + j]? = some (some k):=fun j k hj => by
            rw [← hsrc,List.getElem?_append_right (by simp),List.length_map,show rows.length + j - rows.length = j by omega,List.getElem?_map,hj]; rfl
          have hbox1 : ∀ k cs,S'.heap k = some (.box cs) → H1 k = some (.box cs):=fun k cs h => by
            rw [hH1',h]; split <;> rfl
          have hrow1 : ∀ j k e t l,src[j]? = some (some k) → S'.heap k = some (.row e t l) → H1 k = some (.row e t l):=fun j k e t l hj h => by
            rw [hH1',if_neg]
            · exact h
            · intro hmem
              have:=(hsfz k (somes_mem hj)).1
              rw [inL_iff.2 hmem] at this
              cases this
          have hidE : ∀ k ∈ ids,U' k = true ∧ E'.ρ k = E1.ρ k ∧ E'.sv k = E1.sv k:=fun k hk => by
            refine ⟨by simp only [U',hUid k hk,Bool.true_or],?_,?_⟩
            · show E1.ρ (τ k) = _; rw [hτlow k hk]
            · show (if _ then _ else _) = _
              rw [if_neg (hold k (hUid k hk))]
          -- the memory that is left
          have hob : ∀ k b,(MOut.heap ⟨renSV (fun k => bif inL ids k then k else newBase + (rows.length + idx ks k)) r',bx,fx ++ (rows.map (·.2) ++ ns)⟩ L) k = some b →
              (k ∈ ids ∧ lookBx (L.boxes.map (·.1)) bx k = some b) ∨ (k ∈ ids ∧ H1 k = some b ∧ ∃ e t l,b = .row e t l) ∨ (∃ j p,k = newBase + j ∧ rows[j]? = some p ∧ b = p.2) ∨ (∃ j k',k = newBase + (rows.length + j) ∧ ks[j]? = some k' ∧ newOf S'.heap k' = some b):=fun k b hb => by
            unfold MOut.heap at hb
            simp only [← hfl,List.take_left,List.drop_left] at hb
            split at hb
            · rename_i b' hb'
              cases hb
              obtain ⟨_,_,_,_,_,h1,_⟩:=outAll_box hbx hb'
              exact .inl ⟨by rw [← hids]; exact List.mem_append_left _ h1,hb'⟩
            split at hb
            · rename_i b' hb'
              cases hb
              obtain ⟨h1,h2,h3⟩:=fixsAll_get hfx hb'
              refine .inr (.inl ⟨by rw [← hids]; exact List.mem_append_right _ h1,?_,h3⟩)
              rw [hH1',if_neg (fun hm => by have:=hffz k h1; rw [inL_iff.2 hm] at this; cases this)]
              exact h2
            · obtain ⟨j,h1,h2⟩:=lookNew_get hb
              by_cases hj : j < rows.length
              · rw [List.getElem?_append_left (by simpa using hj),List.getElem?_map] at h2
                rw [List.getElem?_eq_getElem hj] at h2
                cases h2
                exact .inr (.inr (.inl ⟨j,_,h1,List.getElem?_eq_getElem hj,rfl⟩))
              · rw [List.getElem?_append_right (by simpa using hj),List.length_map] at h2
                obtain ⟨k',h3,h4⟩:=newsAll_get hns h2
                exact .inr (.inr (.inr ⟨j - rows.length,k',by omega,h3,h4⟩))
          have hle0 : En.Le (L.st noU x).used S'.used E E0 w w3:=hs3.le
          have hτo : ∀ k,(L.st noU x).used k = true → τ k = k:=fun k hk => by simp only [τ]; rw [if_neg (hold k hk)]
          refine ⟨E',U',⟨fun k hk => by simp only [U',hk,Bool.true_or],fun k hk => ?_,fun k hk => ?_,fun b hb => hle1.imm b (hle0.imm b hb),fun b hb => hle0.heap b hb,fun k hk => ?_⟩,?_,fun b hb => ?_,?_⟩
          · show E1.ρ (τ k) = _
            rw [hτo k hk,hle1.rho k (hle0.used k hk),hle0.rho k hk]
          · show (if _ then _ else _) = _
            rw [if_neg (hold k hk),hle1.sv k (hle0.used k hk),hle0.sv k hk]
          · show E1.rc k = _
            rw [hle1.rc k (hle0.used k hk),hle0.rc k hk]
          · rw [← ho]
            -- an object that is left and lives: where it comes from
            have hfrom : ∀ k b,(MOut.heap ⟨renSV (fun k => bif inL ids k then k else newBase + (rows.length + idx ks k)) r',bx,fx ++ (rows.map (·.2) ++ ns)⟩ L) k = some b → b.live E' k →
                (k ∈ ids ∧ τ k = k) ∨ ∃ j k',k = newBase + j ∧ src[j]? = some (some k') ∧ τ k = k':=fun k b hb hl => by
              rcases hob k b hb with ⟨h1,_⟩ | ⟨h1,_⟩ | ⟨j,p,rfl,h2,rfl⟩ | ⟨j,k',rfl,h2,_⟩
              · exact .inl ⟨h1,hτlow k h1⟩
              · exact .inl ⟨h1,hτlow k h1⟩
              · have h3:=hsrcR _ _ h2
                obtain ⟨e,t,l,h4,h5⟩:=outAll_rows hbx p (List.mem_of_getElem? h2)
                rcases h5 with ⟨k',h5,_⟩ | ⟨h5,_⟩
                · rw [h5] at h3
                  exact .inr ⟨j,k',rfl,h3,(hτ _ _ h3).1⟩
                · rw [h5] at h3
                  rw [h4] at hl
                  exact absurd (hτn _ h3) hl
              · have h3:=hsrcK _ _ h2
                exact .inr ⟨_,k',rfl,h3,(hτ _ _ h3).1⟩
            refine hs1.along τ rfl (fun b hb => hb) (fun k b hb => ?_) (fun j k b b' hj hk hlj hlk he => ?_) hs1.frame
            · rcases hob k b hb with ⟨h1,h2⟩ | ⟨h1,h2,e,t,l,rfl⟩ | ⟨j,p,rfl,h2,rfl⟩ | ⟨j,k',rfl,h2,h3⟩
              · obtain ⟨i',shs,cs,c,nss,_,g2,g3,rfl,g5,g6⟩:=outAll_box hbx h2
                rw [Nat.zero_add] at g3
                have h4:=hbox1 _ _ g2
                obtain ⟨_,vs,ty,h5,h6⟩:=hs1.ob k _ h4
                refine ⟨(hidE k h1).1,⟨vs,ty,by rw [(hidE k h1).2.1,flatV_congr (outCells_mask g3)]; exact h5,?_⟩,fun _ => ⟨rfl,.box cs,by rw [hτlow k h1]; exact h4,trivial⟩⟩
                refine outCells_rep (E2:=E') (U2:=U') hs1 rfl hidE g3 (fun m hm => ?_) (fun j p hj => ?_) h6
                · rw [hH1',if_pos]
                  rw [← hfz]
                  exact List.mem_append_right _ (List.mem_append_left _ (g6 m hm))
                · have hp:=g5 j p hj
                  have hlt:=(List.getElem?_eq_some_iff.1 hp).1
                  have hs:=hsrcR _ _ hp
                  refine ⟨hnewU _ (by omega),?_⟩
                  cases hp1 : p.1 with
                  | some k' => rw [hp1] at hs; exact (hτ _ _ hs).2
                  | none => rw [hp1] at hs; exact hτn _ hs
              · obtain ⟨g1,g2,g3⟩:=hidE k h1
                obtain ⟨_,xs,g5,g6,g7⟩:=hs1.ob k _ h2
                refine ⟨g1,⟨xs,by rw [g3]; exact g5,g6,by rw [g2,g3]; exact g7⟩,fun hl => ⟨rfl,_,by rw [hτlow k h1]; exact h2,?_⟩⟩
                have hl' : E'.sv k ≠ .slice none 0 0:=hl
                rw [g3] at hl'
                show E1.sv (τ k) ≠ _
                rw [hτlow k h1]; exact hl'
              · have hlt:=(List.getElem?_eq_some_iff.1 h2).1
                have h3:=hsrcR _ _ h2
                obtain ⟨e,t,l,h4,h5⟩:=outAll_rows hbx p (List.mem_of_getElem? h2)
                refine ⟨hnewU _ (by omega),?_,fun hl => ?_⟩
                · rw [h4]
                  rcases h5 with ⟨k',h5,h6⟩ | ⟨h5,rfl⟩
                  · rw [h5] at h3
                    have h7:=hrow1 _ _ _ _ _ h3 h6
                    obtain ⟨_,xs,g5,g6,g7⟩:=hs1.ob k' _ h7
                    have es:=(hτ _ _ h3).2
                    have er : E'.ρ (newBase + j) = E1.ρ k':=by show E1.ρ (τ (newBase + j)) = _; rw [(hτ _ _ h3).1]
                    exact ⟨xs,by rw [es]; exact g5,g6,by rw [es,er]; exact g7⟩
                  · rw [h5] at h3
                    have es:=hτn _ h3
                    exact ⟨[],by rw [es]; exact ownR_nil w3 e t.size,rfl,.inl es⟩
                · refine ⟨rfl,?_⟩
                  rw [h4] at hl
                  rcases h5 with ⟨k',h5,h6⟩ | ⟨h5,rfl⟩
                  · rw [h5] at h3
                    have h7:=hrow1 _ _ _ _ _ h3 h6
                    refine ⟨_,by rw [(hτ _ _ h3).1]; exact h7,?_⟩
                    have hl' : E'.sv (newBase + j) ≠ .slice none 0 0:=hl
                    rw [(hτ _ _ h3).2] at hl'
                    show E1.sv (τ (newBase + j)) ≠ _
                    rw [(hτ _ _ h3).1]; exact hl'
                  · rw [h5] at h3
                    exact absurd (hτn _ h3) hl
              · have hlt:=(List.getElem?_eq_some_iff.1 h2).1
                have h4:=hsrcK _ _ h2
                have hk2 : k' ∈ ks:=List.mem_of_getElem? h2
                unfold newOf at h3
                split at h3 <;> try (cases h3; done)
                · rename_i cs hcs
                  cases hdat : isDataL (vwL S'.heap cs) with
                  | false => rw [hdat] at h3; cases h3
                  | true =>
                    rw [hdat,cond_true] at h3
                    cases h3
                    have h5:=hbox1 _ _ hcs
                    obtain ⟨_,vs,ty,h6,h7⟩:=hs1.ob k' _ h5
                    refine ⟨hnewU _ (by omega),⟨vs,ty,?_,?_⟩,fun _ => ⟨rfl,.box cs,by rw [(hτ _ _ h4).1]; exact h5,trivial⟩⟩
                    · show w3.heap[E1.ρ (τ (newBase + (rows.length + j)))]? = _
                      rw [(hτ _ _ h4).1,flatV_congr (vwL_mask S'.heap cs)]; exact h6
                    · have:=vwL_rep (H:=S'.heap) hs1 cs vs (fun i hi => by
                        rw [hH1',if_pos]
                        rw [← hfz]
                        refine List.mem_append_right _ (List.mem_append_right _ (List.mem_flatMap.2 ⟨k',hk2,?_⟩))
                        unfold cellIds; rw [hcs]; exact hi) h7
                      exact data_repL (E:=E1) (E':=E') rfl _ _ hdat this
                · rename_i e t l hrow
                  cases h3
                  have h5:=hrow1 _ _ _ _ _ h4 hrow
                  obtain ⟨_,xs,g5,g6,g7⟩:=hs1.ob k' _ h5
                  have es:=(hτ _ _ h4).2
                  have er : E'.ρ (newBase + (rows.length + j)) = E1.ρ k':=by show E1.ρ (τ (newBase + (rows.length + j))) = _; rw [(hτ _ _ h4).1]
                  refine ⟨hnewU _ (by omega),⟨xs,by rw [es]; exact g5,g6,by rw [es,er]; exact g7⟩,fun hl => ⟨rfl,_,by rw [(hτ _ _ h4).1]; exact h5,?_⟩⟩
                  have hl' : E'.sv (newBase + (rows.length + j)) ≠ .slice none 0 0:=hl
                  rw [es] at hl'
                  show E1.sv (τ (newBase + (rows.length + j))) ≠ _
                  rw [(hτ _ _ h4).1]; exact hl'
                · rename_i es hmp
                  cases h3
                  have h5 : H1 k' = some (.mp es):=by rw [hH1',hmp]; split <;> rfl
                  obtain ⟨_,ents,clock,g5,g6⟩:=hs1.ob k' _ h5
                  have er : E'.ρ (newBase + (rows.length + j)) = E1.ρ k':=by show E1.ρ (τ (newBase + (rows.length + j))) = _; rw [(hτ _ _ h4).1]
                  exact ⟨hnewU _ (by omega),⟨ents,clock,by rw [er]; exact g5,g6⟩,fun _ => ⟨rfl,.mp es,by rw [(hτ _ _ h4).1]; exact h5,trivial⟩⟩
            · rcases hfrom j b hj hlj with ⟨h1,e1⟩ | ⟨i1,k1,rfl,h1,e1⟩ <;> rcases hfrom k b' hk hlk with ⟨h2,e2⟩ | ⟨i2,k2,rfl,h2,e2⟩
              · rw [e1,e2] at he; exact he
              · rw [e1,e2] at he
                have:=(hsfz k2 (somes_mem h2)).2
                rw [inL_iff.2 (he ▸ h1)] at this; cases this
              · rw [e1,e2] at he
                have:=(hsfz k1 (somes_mem h1)).2
                rw [inL_iff.2 (he.symm ▸ h2)] at this; cases this
              · rw [e1,e2] at he
                subst he
                rw [somes_inj hnod h1 h2]
          · rcases hfr b hb with h | ⟨k,hk,hbe⟩
            · rcases hs3.fresh b h with h | h | h
              · exact .inl h
              · exact .inr (.inl h)
              · exact .inr (.inr h)
            · rcases hs3.heap.mine k hk with h | h
              · exact .inr (.inl (hbe ▸ h))
              · exact .inr (.inr (hbe ▸ h))
          · rw [← ho]
            have hrv : Rep E1 S'.used w3 r' v:=by
              rw [← hr']
              have hrep1:=Rep.mono hle1 _ _ hrep
              cases own with
              | true => exact hrep1
              | false =>
                refine vw_rep (H:=S'.heap) hs1 (resSV ss) v (fun k hk => ?_) hrep1
                rw [hH1',if_pos]
                rw [← hfz]
                exact List.mem_append_left _ hk
            refine ren_rep (E:=E1) (E2:=E') rfl r' v (fun k hk => ?_) hrv
            cases hb : inL ids k with
            | true =>
              simp only [cond_true]
              exact hidE k (inL_iff.1 hb)
            | false =>
              simp only [cond_false]
              have hk' : k ∈ ks:=by
                rcases dedup_all (seen:=ids) hk with h | h
                · rw [inL_iff.2 h] at hb; cases hb
                · rw [← hks]; exact h
              have hg:=idx_get hk'
              have hlt:=(List.getElem?_eq_some_iff.1 hg).1
              have h4:=hsrcK _ _ hg
              refine ⟨hnewU _ (by omega),?_,(hτ _ _ h4).2⟩
              show E1.ρ (τ _) = _; rw [(hτ _ _ h4).1]
        · exact hk.elim
      unfold mLeaf at hk
      split at hk
      · rename_i ss hss
        cases e with
        | normal => exact fin ss hss hk
        | ret => exact fin ss hss hk
        | exit id => exact hk.elim
        | goto l => exact hk.elim
        | panic ch => exact hk.elim
        | outgrown => exact hk.elim
      · exact hk.elim
    · exact h.elim
  · exact h.elim
end Go.Sx
namespace Go.Sx
open Go.RowKit
def bindK : List (Nat × Nat) → List SV → List (Nat × Nat)
  | (i,_) :: r,.ptr k _ :: q => (i,k) :: bindK r q
  | _,_ => []
def bindL : List Sh → List SV → List (Nat × Nat)
  | .ptr i _ :: r,.ptr k _ :: q => (i,k) :: bindL r q
  | .clo _ ks :: r,.fn _ cs :: q => bindK ks cs ++ bindL r q
  | .rowk i _ _ :: r,.own k :: q => (i,k) :: bindL r q
  | _ :: r,_ :: q => bindL r q
  | _,_ => []
def addM : List (Nat × Nat) → List (Nat × Nat) → List (Nat × Nat)
  | m,[] => m
  | m,p :: r => bif inL (m.map (·.1)) p.1 then addM m r else addM (m ++ [p]) r
def look : List (Nat × Nat) → Nat → Nat
  | (i,k) :: r,j => bif Nat.beq j i then k else look r j
  | [],j => j
def bindB (H : Hp) : List (Nat × List Sh) → List (Nat × Nat) → List (Nat × Nat)
  | [],m => m
  | (i,shs) :: r,m => bindB H r (match H (look m i) with
    | some (.box cs) => addM m (bindL shs cs)
    | _ => m)
def back : List (Nat × Nat) → Nat → Nat
  | (i,k) :: r,j => bif Nat.beq j k then i else back r j
  | [],j => j
def decM (H : Hp) (m : List (Nat × Nat)) : (l : List Sh) → List SV → Option (denL l)
  | [],[] => some ()
  | .val t :: r,v :: q => match Sh.dec (.val t) (vw H v),decM H m r q with
    | some d,some x => some (d,x)
    | _,_ => none
  | .agg t :: r,v :: q => match Sh.dec (.agg t) (vw H v),decM H m r q with
    | some d,some x => some (d,x)
    | _,_ => none
  | .ptr i o :: r,.ptr k o' :: q => match decM H m r q with
    | some x => if Nat.beq (look m i) k && Nat.beq o o' then some ((),x) else none
    | _ => none
  | .fn f :: r,.fn g [] :: q => match decM H m r q with
    | some x => if Nat.beq f g then some ((),x) else none
    | _ => none
  | .clo f ks :: r,.fn g cs :: q => match decM H m r q with
    | some x => if Nat.beq f g && ptrsEq (look m) ks cs then some ((),x) else none
    | _ => none
  | .arr t n :: r,.arr t' n' l :: q => match decM H m r q with
    | some x => if h : Ty.beq t' t = true ∧ Nat.beq n' n = true then some (show List t.den from (Ty.beq_eq h.1) ▸ l,x) else none
    | _ => none
  | .adr t :: r,v :: q => match Sh.dec (.adr t) v,decM H m r q with
    | some d,some x => some (d,x)
    | _,_ => none
  | .nils :: r,.nils :: q => match decM H m r q with
    | some x => some ((),x)
    | _ => none
  | .any :: r,v :: q => match decM H m r q with
    | some x => bif isArr v then none else some ((),x)
    | _ => none
  | .row e t :: r,v :: q => match Sh.ext H (.row e t) v,decM H m r q with
    | some d,some x => some (d,x)
    | _,_ => none
  | .rowk i e t :: r,.own k :: q => match H k,decM H m r q with
    | some (.row e' t' l),some x => if h : (Nat.beq (look m i) k = true ∧ Nat.beq e e' = true) ∧ Ty.beq t' t = true then some (show List t.den from (Ty.beq_eq h.2) ▸ l,x) else none
    | _,_ => none
  | _,_ => none
def grabM (H : Hp) (m : List (Nat × Nat)) : List (Nat × Nat) → Option (List SV)
  | (i,n) :: r => match H (look m i),grabM H m r with
    | some (.box cs),some q => if Nat.beq cs.length n then some (cs ++ q) else none
    | _,_ => none
  | [] => some []
structure MC (P : Program) where
  f : FuncId
  L : Lay
  pre : L.den → Option Prop
  out : L.den → MOut
  mok : L.mok = true
  ent : entB P f = true
  pok : ptrsOk L.ids L.shs = true
  ok : ∀ x,ndP (pre x) → MFnOk P f L x (out x)
def updBx (m : List (Nat × Nat)) : List Nat → List (List SV) → List (Nat × Option Ob)
  | i :: r,cs :: q => (look m i,some (.box cs)) :: updBx m r q
  | _,_ => []
def updFx (m : List (Nat × Nat)) : List Nat → List Ob → List (Nat × Option Ob)
  | i :: r,o :: q => (look m i,some o) :: updFx m r q
  | _,_ => []
def isRowOb : Ob → Bool
  | .row _ _ _ => true
  | _ => false
def updNew (base : Nat) : List Ob → List (Nat × Option Ob)
  | o :: r => (base,some o) :: updNew (base + 1) r
  | [] => []
def newOk : Ob → Bool
  | .box cs => isDataL cs
  | .row _ _ _ => true
  | .mp _ => true
  | _ => false
def rowSrc : List Sh → List SV → List Nat
  | .row _ _ :: r,v :: q => (match v with
    | .own j => [j]
    | _ => []) ++ rowSrc r q
  | _ :: r,_ :: q => rowSrc r q
  | _,_ => []
def dropU (l : List Nat) : List (Nat × Option Ob):=l.map fun j => (j,none)
def MC.con {P : Program} (c : MC P) : Con:=fun args H base =>
  let m:=bindB H c.L.boxes (addM [] (bindL (c.L.slots.map (·.2)) args))
  let bids:=c.L.boxes.map (·.1)
  let fids:=fixIds c.L.shs
  let ids:=bids ++ fids
  match grabM H m c.L.sizes with
  | some q => match decM H m c.L.shs (args ++ q) with
    | some x =>
      let o:=c.out x
      let fx:=o.news.take fids.length
      let nw:=o.news.drop fids.length
      let f:=fun k => bif inL ids k then look m k else base + (k - newBase)
      let known:=fun k => inL ids k || (Nat.ble newBase k && Nat.blt (k - newBase) nw.length)
      bif nodupB (m.map (·.2)) && nodupB (m.map (·.1)) && (ids.all fun i => inL (m.map (·.1)) i) && (m.all fun p => inL ids p.1) && Nat.beq o.boxes.length bids.length && Nat.beq args.length c.L.slots.length
          && ((frzL c.L.shs (args ++ q)).all fun k => !inL (m.map (·.2)) k) && okRows (frzL c.L.shs (args ++ q)) c.L.shs (args ++ q) && ((o.boxes.all fun cs => (idsL cs).all known) && nw.all newOk && (idsOf o.res).all known)
          && (Nat.beq fx.length fids.length && fx.all isRowOb && (fids.all fun i => !inL bids i) && (rowSrc c.L.shs (args ++ q)).all fun k => !inL (m.map (·.2)) k) then
        some { need:=c.pre x
               res:=renSV f o.res
               upd:=updBx m bids (o.boxes.map (renL f)) ++ updFx m fids fx ++ updNew base nw ++ dropU (rowSrc c.L.shs (args ++ q)) ++ frzUpd H (frzL c.L.shs (args ++ q))
               news:=(List.range nw.length).map (base + ·) }
      else none
    | none => none
  | none => none
theorem look_mem : ∀ {m : List (Nat × Nat)} {i k : Nat},(m.map (·.1)).Nodup → (i,k) ∈ m → look m i = k
  | (j,l) :: r,i,k,hn,h => by
    rw [List.map_cons,List.nodup_cons] at hn
    simp only [look,beq_iff']
    rcases List.mem_cons.1 h with h | h
    · cases h; simp
    · have : i ≠ j:=fun e => hn.1 (e ▸ List.mem_map_of_mem (f:=(·.1)) h)
      simp only [this,decide_false,cond_false]
      exact look_mem hn.2 h
theorem back_mem : ∀ {m : List (Nat × Nat)} {i k : Nat},(m.map (·.2)).Nodup → (i,k) ∈ m → back m k = i
  | (j,l) :: r,i,k,hn,h => by
    rw [List.map_cons,List.nodup_cons] at hn
    simp only [back,beq_iff']
    rcases List.mem_cons.1 h with h | h
    · cases h; simp
    · have : k ≠ l:=fun e => hn.1 (e ▸ List.mem_map_of_mem (f:=(·.2)) h)
      simp only [this,decide_false,cond_false]
      exact back_mem hn.2 h
theorem decM_rep {E1 E2 : En} {U U2 : Nat → Bool} {w w0 : World} {M : Nat → Prop} {H H1 : Hp} {m : List (Nat × Nat)} {bs : List Nat} (hs1 : HSat w0 M E1 U H1 w) (hI : E2.I = E1.I) (hb : ∀ i ∈ bs,U2 i = true ∧ E2.ρ i = E1.ρ (look m i) ∧ E2.sv i = E1.sv (look m i)) :
    ∀ (i : Nat) {l : List Sh} {svs : List SV} {x : denL l} {vals : List Value},decM H m l svs = some x → (∀ k ∈ frzL l svs,H1 k = frzOb (H k)) → (∀ k v,srcL i l svs k = some v → U2 k = true ∧ ((∃ j,v = .own j ∧ E2.sv k = E1.sv j) ∨ (v = .nils ∧ E2.sv k = .slice none 0 0))) → ptrsOk bs l = true → RepL E1 U w svs vals → RepL E2 U2 w (encL i l x) vals
  | i,[],[],_,_,_,_,_,_,hr => by unfold RepL at *; exact hr
  | i,.val t :: r,c :: q,x,vals,h,hf,hsrc,hp,hr => by
    simp only [decM] at h
    split at h <;> try (cases h; done)
    rename_i d y hd hy
    cases h
    unfold RepL at hr
    obtain ⟨v,u,e,hv,hu⟩:=hr
    subst e
    refine RepL.cons (Sh.dec_ok (s:=.val t) hI i hd (vw_rep hs1 c v (fun k hk => hf k (List.mem_append_left _ hk)) hv)) ?_
    exact decM_rep hs1 hI hb (i + 1) hy (fun k hk => hf k (List.mem_append_right _ hk)) (fun k v hk => hsrc k v hk) hp hu
  | i,.agg t :: r,c :: q,x,vals,h,hf,hsrc,hp,hr => by
    simp only [decM] at h
    split at h <;> try (cases h; done)
    rename_i d y hd hy
    cases h
    unfold RepL at hr
    obtain ⟨v,u,e,hv,hu⟩:=hr
    subst e
    refine RepL.cons (Sh.dec_ok (s:=.agg t) hI i hd (vw_rep hs1 c v (fun k hk => hf k (List.mem_append_left _ hk)) hv)) ?_
    exact decM_rep hs1 hI hb (i + 1) hy (fun k hk => hf k (List.mem_append_right _ hk)) (fun k v hk => hsrc k v hk) hp hu
  | i,.ptr a o :: r,c :: q,x,vals,h,hf,hsrc,hp,hr => by
    simp only [ptrsOk,Bool.and_eq_true] at hp
    cases c with
    | ptr k o' =>
      simp only [decM] at h
      split at h <;> try (cases h; done)
      rename_i y hy
      split at h <;> try (cases h; done)
      rename_i he
      simp only [Bool.and_eq_true] at he
      have e1:=Nat.eq_of_beq_eq_true he.1
      have e2:=Nat.eq_of_beq_eq_true he.2
      subst e1 e2
      cases h
      unfold RepL at hr
      obtain ⟨v,u,e,hv,hu⟩:=hr
      subst e
      refine RepL.cons ?_ (decM_rep hs1 hI hb (i + 1) hy hf (fun k v hk => hsrc k v hk) hp.2 hu)
      obtain ⟨hb1,hb2,_⟩:=hb a (inL_iff.1 hp.1)
      show Rep E2 U2 w (.ptr a o) v
      unfold Rep at hv ⊢
      exact ⟨hb1,by rw [hb2]; exact hv.2⟩
    | _ => cases h
  | i,.fn f :: r,c :: q,x,vals,h,hf,hsrc,hp,hr => by
    cases c with
    | fn g cs =>
      cases cs with
      | nil =>
        simp only [decM] at h
        split at h <;> try (cases h; done)
        rename_i y hy
        split at h <;> try (cases h; done)
        rename_i he
        have e1:=Nat.eq_of_beq_eq_true he
        subst e1
        cases h
        unfold RepL at hr
        obtain ⟨v,u,e,hv,hu⟩:=hr
        subst e
        exact RepL.cons (data_rep hI (.fn f []) v rfl hv) (decM_rep hs1 hI hb (i + 1) hy hf (fun k v hk => hsrc k v hk) hp hu)
      | cons _ _ => cases h
    | _ => cases h
  | i,.clo f ks :: r,c :: q,x,vals,h,hf,hsrc,hp,hr => by
    simp only [ptrsOk,Bool.and_eq_true,List.all_eq_true] at hp
    cases c with
    | fn g cs =>
      simp only [decM] at h
      split at h <;> try (cases h; done)
      rename_i y hy
      split at h <;> try (cases h; done)
      rename_i he
      simp only [Bool.and_eq_true] at he
      have e1:=Nat.eq_of_beq_eq_true he.1
      subst e1
      cases h
      unfold RepL at hr
      obtain ⟨v,u,e,hv,hu⟩:=hr
      subst e
      refine RepL.cons ?_ (decM_rep hs1 hI hb (i + 1) hy hf (fun k v hk => hsrc k v hk) hp.2 hu)
      show Rep E2 U2 w (.fn f (encK ks)) v
      unfold Rep at hv ⊢
      obtain ⟨vs,hv1,hv2⟩:=hv
      exact ⟨vs,hv1,ptrsEq_rep he.2 (fun p hp' => ⟨(hb p.1 (inL_iff.1 (hp.1 p hp'))).1,(hb p.1 (inL_iff.1 (hp.1 p hp'))).2.1⟩) hv2⟩
    | _ => cases h
  | i,.oval _ :: r,c :: q,x,vals,h,hf,hsrc,hp,hr => by simp [decM] at h
  | i,.any :: r,c :: q,x,vals,h,hf,hsrc,hp,hr => by
    simp only [decM] at h
    split at h <;> try (cases h; done)
    rename_i y hy
    have hvc : isArr c = false:=by
      cases e : isArr c
      · rfl
      · rw [e] at h; cases h
    rw [hvc] at h
    cases h
    unfold RepL at hr
    obtain ⟨v,u,e,hv,hu⟩:=hr
    subst e
    exact RepL.cons (by show Rep E2 U2 w .any v; unfold Rep; trivial) (decM_rep hs1 hI hb (i + 1) hy hf (fun k v hk => hsrc k v hk) hp hu)
  | i,.row e t :: r,c :: q,x,vals,h,hf,hsrc,hp,hr => by
    simp only [decM] at h
    split at h <;> try (cases h; done)
    rename_i d y hd hy
    cases h
    unfold RepL at hr
    obtain ⟨v,u,e,hv,hu⟩:=hr
    subst e
    refine RepL.cons ?_ (decM_rep hs1 hI hb (i + 1) hy hf (fun k v hk => hsrc k v ?_) hp hu)
    · obtain ⟨h1,h2⟩:=hsrc i c (by simp [srcL,Nat.beq_refl])
      show Rep E2 U2 w (.own i) v
      rcases h2 with ⟨j,rfl,h2⟩ | ⟨rfl,h2⟩
      · unfold Rep at hv ⊢
        exact ⟨h1,by rw [h2]; exact hv.2.1,hv.2.2⟩
      · unfold Rep at hv ⊢
        exact ⟨h1,by rw [h2]; exact hv,by rw [hv]; exact ⟨_,_,_,rfl⟩⟩
    · have:=srcL_ge hk
      have hne : k ≠ i:=by omega
      simp only [srcL,beq_iff',hne,decide_false,cond_false]
      exact hk
  | i,.nils :: r,c :: q,_,vals,h,hf,hsrc,hp,hr => by
    cases c <;> simp only [decM] at h <;> try (cases h; done)
    split at h <;> try (cases h; done)
    rename_i hy
    cases h
    unfold RepL at hr
    obtain ⟨v,u,e,hv,hu⟩:=hr
    subst e
    refine RepL.cons ?_ (decM_rep hs1 hI hb (i + 1) hy hf (fun k v hk => hsrc k v hk) hp hu)
    exact data_rep hI .nils v rfl hv
  | i,.adr t :: r,c :: q,_,vals,h,hf,hsrc,hp,hr => by
    simp only [decM] at h
    split at h <;> try (cases h; done)
    rename_i hd hy
    cases h
    unfold RepL at hr
    obtain ⟨v,u,e,hv,hu⟩:=hr
    subst e
    exact RepL.cons (Sh.dec_ok (s:=.adr t) hI i hd hv) (decM_rep hs1 hI hb (i + 1) hy hf (fun k v hk => hsrc k v hk) hp hu)
  | i,.arr t n :: r,c :: q,_,vals,h,hf,hsrc,hp,hr => by
    cases c <;> simp only [decM] at h <;> try (cases h; done)
    split at h <;> try (cases h; done)
    rename_i hy
    split at h <;> try (cases h; done)
    rename_i he
    have e1:=Ty.beq_eq he.1
    have e2:=Nat.eq_of_beq_eq_true he.2
    subst e1 e2
    cases h
    unfold RepL at hr
    obtain ⟨v,u,e,hv,hu⟩:=hr
    subst e
    refine RepL.cons ?_ (decM_rep hs1 hI hb (i + 1) hy hf (fun k v hk => hsrc k v hk) hp hu)
    exact data_rep hI (.arr _ _ _) v rfl hv
  | i,.rowk a e t :: r,c :: q,_,vals,h,hf,hsrc,hp,hr => by
    cases c <;> simp only [decM] at h <;> try (cases h; done)
    rename_i k
    split at h <;> try (cases h; done)
    rename_i hy
    split at h <;> try (cases h; done)
    rename_i he
    have e1:=Nat.eq_of_beq_eq_true he.1.1
    cases h
    simp only [ptrsOk,Bool.and_eq_true] at hp
    unfold RepL at hr
    obtain ⟨v,u,e,hv,hu⟩:=hr
    subst e
    refine RepL.cons ?_ (decM_rep hs1 hI hb (i + 1) hy hf (fun k v hk => hsrc k v hk) hp.2 hu)
    obtain ⟨hb1,_,hb3⟩:=hb a (inL_iff.1 hp.1)
    show Rep E2 U2 w (.own a) v
    unfold Rep at hv ⊢
    exact ⟨hb1,by rw [hb3,e1]; exact hv.2.1,hv.2.2⟩
  | i,.yld _ :: r,c :: q,_,_,h,_,_,_,_ => by cases c <;> cases h
  | i,[],_ :: _,_,_,h,_,_,_,_ => by cases h
  | i,s :: _,[],_,_,h,_,_,_,_ => by cases s <;> cases h
theorem rowsL_srcM {H : Hp} {m : List (Nat × Nat)} : ∀ {i : Nat} {l : List Sh} {svs : List SV} {x : denL l} {k : Nat} {o : Ob},decM H m l svs = some x → rowsL i l x k = some o →
    (∃ e t n v,o = .row e t n ∧ srcL i l svs k = some v ∧ ((∃ j,v = .own j ∧ H j = some (.row e t n)) ∨ (v = .nils ∧ n = []))) ∨ (k ∈ fixIds l ∧ H (look m k) = some o ∧ ∃ e t n,o = .row e t n)
  | i,[],svs,x,k,o,_,h => by cases h
  | i,s :: r,[],x,k,o,h,_ => by cases s <;> cases h
  | i,.row e t :: r,c :: q,x,k,o,hx,h => by
    simp only [decM] at hx
    split at hx <;> try (cases hx; done)
    rename_i d y hd hy
    cases hx
    simp only [rowsL,srcL,beq_iff'] at h ⊢
    by_cases hk : k = i
    · simp only [hk,decide_true,cond_true,Option.some.injEq] at h ⊢
      refine .inl ⟨e,t,d,c,h.symm,rfl,?_⟩
      simp only [Sh.ext] at hd
      split at hd <;> try (cases hd; done)
      · rename_i j
        split at hd <;> try (cases hd; done)
        rename_i e' t' l' hj
        split at hd <;> try (cases hd; done)
        rename_i hb
        have h1:=Nat.eq_of_beq_eq_true hb.1
        have h2:=Ty.beq_eq hb.2
        subst h1 h2
        cases hd
        exact .inl ⟨j,rfl,hj⟩
      · cases hd
        exact .inr ⟨rfl,rfl⟩
    · simp only [hk,decide_false,cond_false] at h ⊢
      exact rowsL_srcM hy h
  | i,.val t :: r,c :: q,x,k,o,hx,h => by
    simp only [decM] at hx
    split at hx <;> try (cases hx; done)
    rename_i hy; cases hx; exact rowsL_srcM (i:=i + 1) hy h
  | i,.agg t :: r,c :: q,x,k,o,hx,h => by
    simp only [decM] at hx
    split at hx <;> try (cases hx; done)
    rename_i hy; cases hx; exact rowsL_srcM (i:=i + 1) hy h
  | i,.ptr a b :: r,c :: q,x,k,o,hx,h => by
    cases c <;> simp only [decM] at hx <;> try (cases hx; done)
    split at hx <;> try (cases hx; done)
    rename_i hy
    split at hx <;> try (cases hx; done)
    cases hx; exact rowsL_srcM (i:=i + 1) hy h
  | i,.fn f :: r,c :: q,x,k,o,hx,h => by
    cases c with
    | fn g cs =>
      cases cs with
      | nil =>
        simp only [decM] at hx
        split at hx <;> try (cases hx; done)
        rename_i hy
        split at hx <;> try (cases hx; done)
        cases hx; exact rowsL_srcM (i:=i + 1) hy h
      | cons _ _ => cases hx
    | _ => cases hx
  | i,.clo f ks :: r,c :: q,x,k,o,hx,h => by
    cases c <;> simp only [decM] at hx <;> try (cases hx; done)
    split at hx <;> try (cases hx; done)
    rename_i hy
    split at hx <;> try (cases hx; done)
    cases hx; exact rowsL_srcM (i:=i + 1) hy h
  | i,.yld f :: r,c :: q,x,k,o,hx,h => by cases c <;> cases hx
  | i,.nils :: r,c :: q,x,k,o,hx,h => by
    cases c <;> simp only [decM] at hx <;> try (cases hx; done)
    split at hx <;> try (cases hx; done)
    rename_i hy
    cases hx; exact rowsL_srcM (i:=i + 1) hy h
  | i,.adr t :: r,c :: q,x,k,o,hx,h => by
    simp only [decM] at hx
    split at hx <;> try (cases hx; done)
    rename_i hd hy
    cases hx; exact rowsL_srcM (i:=i + 1) hy h
  | i,.arr t n :: r,c :: q,x,k,o,hx,h => by
    cases c <;> simp only [decM] at hx <;> try (cases hx; done)
    split at hx <;> try (cases hx; done)
    rename_i hy
    split at hx <;> try (cases hx; done)
    cases hx; exact rowsL_srcM (i:=i + 1) hy h
  | i,.oval _ :: r,c :: q,x,k,o,hx,h => by simp [decM] at hx
  | i,.any :: r,c :: q,x,k,o,hx,h => by
    simp only [decM] at hx
    split at hx <;> try (cases hx; done)
    rename_i hy
    cases hv : isArr c
    · rw [hv] at hx; cases hx; exact rowsL_srcM (i:=i + 1) hy h
    · rw [hv] at hx; cases hx
  | i,.rowk a e t :: r,c :: q,x,k,o,hx,h => by
    cases c <;> simp only [decM] at hx <;> try (cases hx; done)
    rename_i k'
    split at hx <;> try (cases hx; done)
    rename_i e' t' l' y hH hy
    split at hx <;> try (cases hx; done)
    rename_i he
    have e1:=Nat.eq_of_beq_eq_true he.1.1
    have e2:=Nat.eq_of_beq_eq_true he.1.2
    have e3:=Ty.beq_eq he.2
    subst e2 e3
    cases hx
    simp only [rowsL,beq_iff'] at h
    by_cases hk : k = a
    · simp only [hk,decide_true,cond_true,Option.some.injEq] at h
      refine .inr ⟨by rw [hk]; exact List.mem_cons_self,?_,e,t',_,h.symm⟩
      rw [hk,e1,← h]
      exact hH
    · simp only [hk,decide_false,cond_false] at h
      rcases rowsL_srcM (i:=i + 1) hy h with h | ⟨h1,h2,h3⟩
      · exact .inl h
      · exact .inr ⟨List.mem_cons_of_mem _ h1,h2,h3⟩
theorem decM_fix {H : Hp} {m : List (Nat × Nat)} : ∀ {l : List Sh} {svs : List SV} {x : denL l} {k : Nat},decM H m l svs = some x → k ∈ fixIds l → ∃ e t n,H (look m k) = some (.row e t n)
  | [],svs,x,k,_,h => by cases h
  | s :: r,[],x,k,h,_ => by cases s <;> cases h
  | .rowk a e t :: r,c :: q,x,k,hx,h => by
    cases c <;> simp only [decM] at hx <;> try (cases hx; done)
    split at hx <;> try (cases hx; done)
    rename_i e' t' l' y hH hy
    split at hx <;> try (cases hx; done)
    rename_i he
    have e1:=Nat.eq_of_beq_eq_true he.1.1
    rcases List.mem_cons.1 h with rfl | h
    · exact ⟨e',t',l',by rw [e1]; exact hH⟩
    · exact decM_fix hy h
  | .row e t :: r,c :: q,x,k,hx,h => by
    simp only [decM] at hx
    split at hx <;> try (cases hx; done)
    rename_i hy
    exact decM_fix (l:=r) hy h
  | .val t :: r,c :: q,x,k,hx,h => by
    simp only [decM] at hx
    split at hx <;> try (cases hx; done)
    rename_i hy
    exact decM_fix (l:=r) hy h
  | .agg t :: r,c :: q,x,k,hx,h => by
    simp only [decM] at hx
    split at hx <;> try (cases hx; done)
    rename_i hy
    exact decM_fix (l:=r) hy h
  | .adr t :: r,c :: q,x,k,hx,h => by
    simp only [decM] at hx
    split at hx <;> try (cases hx; done)
    rename_i hy
    exact decM_fix (l:=r) hy h
  | .oval _ :: r,c :: q,x,k,hx,h => by simp [decM] at hx
  | .any :: r,c :: q,x,k,hx,h => by
    simp only [decM] at hx
    split at hx <;> try (cases hx; done)
    rename_i hy
    exact decM_fix (l:=r) hy h
  | .ptr a o :: r,c :: q,x,k,hx,h => by
    cases c <;> simp only [decM] at hx <;> try (cases hx; done)
    split at hx <;> try (cases hx; done)
    rename_i hy
    exact decM_fix (l:=r) hy h
  | .nils :: r,c :: q,x,k,hx,h => by
    cases c <;> simp only [decM] at hx <;> try (cases hx; done)
    split at hx <;> try (cases hx; done)
    rename_i hy
    exact decM_fix (l:=r) hy h
  | .arr t n :: r,c :: q,x,k,hx,h => by
    cases c <;> simp only [decM] at hx <;> try (cases hx; done)
    split at hx <;> try (cases hx; done)
    rename_i hy
    exact decM_fix (l:=r) hy h
  | .fn f :: r,c :: q,x,k,hx,h => by
    cases c with
    | fn g cs =>
      cases cs with
      | nil =>
        simp only [decM] at hx
        split at hx <;> try (cases hx; done)
        rename_i hy
        exact decM_fix (l:=r) hy h
      | cons _ _ => cases hx
    | _ => cases hx
  | .clo f ks :: r,c :: q,x,k,hx,h => by
    cases c <;> simp only [decM] at hx <;> try (cases hx; done)
    split at hx <;> try (cases hx; done)
    rename_i hy
    exact decM_fix (l:=r) hy h
  | .yld f :: r,c :: q,x,k,hx,h => by cases c <;> cases hx
theorem srcL_kindM {H : Hp} {m : List (Nat × Nat)} : ∀ {i : Nat} {l : List Sh} {svs : List SV} {x : denL l} {k : Nat} {v : SV},decM H m l svs = some x → srcL i l svs k = some v →
    (∃ j e t n,v = .own j ∧ H j = some (.row e t n) ∧ j ∈ rowSrc l svs) ∨ v = .nils
  | i,[],svs,x,k,v,_,h => by cases svs <;> cases h
  | i,s :: r,[],x,k,v,h,_ => by cases s <;> cases h
  | i,.row e t :: r,c :: q,x,k,v,hx,h => by
    simp only [decM] at hx
    split at hx <;> try (cases hx; done)
    rename_i d y hd hy
    cases hx
    simp only [srcL,beq_iff'] at h
    by_cases hk : k = i
    · simp only [hk,decide_true,cond_true,Option.some.injEq] at h
      subst h
      simp only [Sh.ext] at hd
      split at hd <;> try (cases hd; done)
      · rename_i j
        split at hd <;> try (cases hd; done)
        rename_i e' t' l' hj
        exact .inl ⟨j,e',t',l',rfl,hj,by simp [rowSrc]⟩
      · exact .inr rfl
    · simp only [hk,decide_false,cond_false] at h
      rcases srcL_kindM hy h with ⟨j,e',t',n,h1,h2,h3⟩ | h1
      · exact .inl ⟨j,e',t',n,h1,h2,by simp only [rowSrc]; exact List.mem_append_right _ h3⟩
      · exact .inr h1
  | i,.val t :: r,c :: q,x,k,v,hx,h => by
    simp only [decM] at hx
    split at hx <;> try (cases hx; done)
    rename_i hy; cases hx; exact srcL_kindM (i:=i + 1) (l:=r) (svs:=q) hy h
  | i,.agg t :: r,c :: q,x,k,v,hx,h => by
    simp only [decM] at hx
    split at hx <;> try (cases hx; done)
    rename_i hy; cases hx; exact srcL_kindM (i:=i + 1) (l:=r) (svs:=q) hy h
  | i,.ptr a b :: r,c :: q,x,k,v,hx,h => by
    cases c <;> simp only [decM] at hx <;> try (cases hx; done)
    split at hx <;> try (cases hx; done)
    rename_i hy
    split at hx <;> try (cases hx; done)
    cases hx; exact srcL_kindM (i:=i + 1) (l:=r) (svs:=q) hy h
  | i,.fn f :: r,c :: q,x,k,v,hx,h => by
    cases c with
    | fn g cs =>
      cases cs with
      | nil =>
        simp only [decM] at hx
        split at hx <;> try (cases hx; done)
        rename_i hy
        split at hx <;> try (cases hx; done)
        cases hx; exact srcL_kindM (i:=i + 1) (l:=r) (svs:=q) hy h
      | cons _ _ => cases hx
    | _ => cases hx
  | i,.clo f ks :: r,c :: q,x,k,v,hx,h => by
    cases c <;> simp only [decM] at hx <;> try (cases hx; done)
    split at hx <;> try (cases hx; done)
    rename_i hy
    split at hx <;> try (cases hx; done)
    cases hx; exact srcL_kindM (i:=i + 1) (l:=r) (svs:=q) hy h
  | i,.yld f :: r,c :: q,x,k,v,hx,h => by cases c <;> cases hx
  | i,.nils :: r,c :: q,x,k,v,hx,h => by
    cases c <;> simp only [decM] at hx <;> try (cases hx; done)
    split at hx <;> try (cases hx; done)
    rename_i hy
    cases hx; exact srcL_kindM (i:=i + 1) (l:=r) (svs:=q) hy h
  | i,.adr t :: r,c :: q,x,k,v,hx,h => by
    simp only [decM] at hx
    split at hx <;> try (cases hx; done)
    rename_i hd hy
    cases hx; exact srcL_kindM (i:=i + 1) (l:=r) (svs:=q) hy h
  | i,.arr t n :: r,c :: q,x,k,v,hx,h => by
    cases c <;> simp only [decM] at hx <;> try (cases hx; done)
    split at hx <;> try (cases hx; done)
    rename_i hy
    split at hx <;> try (cases hx; done)
    cases hx; exact srcL_kindM (i:=i + 1) (l:=r) (svs:=q) hy h
  | i,.oval _ :: r,c :: q,x,k,v,hx,h => by simp [decM] at hx
  | i,.any :: r,c :: q,x,k,v,hx,h => by
    simp only [decM] at hx
    split at hx <;> try (cases hx; done)
    rename_i hy
    cases hv : isArr c
    · rw [hv] at hx; cases hx; exact srcL_kindM (i:=i + 1) (l:=r) (svs:=q) hy h
    · rw [hv] at hx; cases hx
  | i,.rowk a e t :: r,c :: q,x,k,v,hx,h => by
    cases c <;> simp only [decM] at hx <;> try (cases hx; done)
    split at hx <;> try (cases hx; done)
    rename_i hy
    split at hx <;> try (cases hx; done)
    exact srcL_kindM (i:=i + 1) (l:=r) (svs:=q) hy h
theorem decM_mask {H : Hp} {m : List (Nat × Nat)} : ∀ (i : Nat) {l : List Sh} {svs : List SV} {x : denL l},decM H m l svs = some x → (encL i l x).map isArr = svs.map isArr
  | _,[],[],_,_ => rfl
  | i,[],_ :: _,_,h => by cases h
  | i,s :: _,[],_,h => by cases s <;> cases h
  | i,.row e t :: r,c :: q,x,hx => by
    simp only [decM] at hx
    split at hx <;> try (cases hx; done)
    rename_i d y hd hy
    cases hx
    rw [encL,List.map_cons,List.map_cons,ext_mask i hd,decM_mask (i + 1) hy]
  | i,.val t :: r,c :: q,x,hx => by
    simp only [decM] at hx
    split at hx <;> try (cases hx; done)
    rename_i d y hd hy
    cases hx
    rw [encL,List.map_cons,List.map_cons,ext_mask (H:=H) i (s:=.val t) (v:=c) hd,decM_mask (i + 1) hy]
  | i,.agg t :: r,c :: q,x,hx => by
    simp only [decM] at hx
    split at hx <;> try (cases hx; done)
    rename_i d y hd hy
    cases hx
    rw [encL,List.map_cons,List.map_cons,ext_mask (H:=H) i (s:=.agg t) (v:=c) hd,decM_mask (i + 1) hy]
  | i,.ptr a b :: r,c :: q,x,hx => by
    cases c <;> simp only [decM] at hx <;> try (cases hx; done)
    split at hx <;> try (cases hx; done)
    rename_i hy
    split at hx <;> try (cases hx; done)
    cases hx
    rw [encL,List.map_cons,List.map_cons,decM_mask (i + 1) hy]; rfl
  | i,.fn f :: r,c :: q,x,hx => by
    cases c with
    | fn g cs =>
      cases cs with
      | nil =>
        simp only [decM] at hx
        split at hx <;> try (cases hx; done)
        rename_i hy
        split at hx <;> try (cases hx; done)
        cases hx
        rw [encL,List.map_cons,List.map_cons,decM_mask (i + 1) hy]; rfl
      | cons _ _ => cases hx
    | _ => cases hx
  | i,.clo f ks :: r,c :: q,x,hx => by
    cases c <;> simp only [decM] at hx <;> try (cases hx; done)
    split at hx <;> try (cases hx; done)
    rename_i hy
    split at hx <;> try (cases hx; done)
    cases hx
    rw [encL,List.map_cons,List.map_cons,decM_mask (i + 1) hy]; rfl
  | i,.yld f :: r,c :: q,x,hx => by cases c <;> cases hx
  | i,.nils :: r,c :: q,x,hx => by
    cases c <;> simp only [decM] at hx <;> try (cases hx; done)
    split at hx <;> try (cases hx; done)
    rename_i hy
    cases hx
    rw [encL,List.map_cons,List.map_cons,decM_mask (i + 1) hy]; rfl
  | i,.adr t :: r,c :: q,x,hx => by
    simp only [decM] at hx
    split at hx <;> try (cases hx; done)
    rename_i hd hy
    cases hx
    rw [encL,List.map_cons,List.map_cons,decM_mask (i + 1) hy]
    cases c <;> first | rfl | (simp [Sh.dec] at hd)
  | i,.arr t n :: r,c :: q,x,hx => by
    cases c <;> simp only [decM] at hx <;> try (cases hx; done)
    split at hx <;> try (cases hx; done)
    rename_i hy
    split at hx <;> try (cases hx; done)
    cases hx
    rw [encL,List.map_cons,List.map_cons,decM_mask (i + 1) hy]; rfl
  | i,.oval _ :: r,c :: q,x,hx => by simp [decM] at hx
  | i,.any :: r,c :: q,x,hx => by
    simp only [decM] at hx
    split at hx <;> try (cases hx; done)
    rename_i hy
    cases hv : isArr c
    · rw [hv] at hx
      cases hx
      rw [encL,List.map_cons,List.map_cons,decM_mask (i + 1) hy,hv]; rfl
    · rw [hv] at hx; cases hx
  | i,.rowk a e t :: r,c :: q,x,hx => by
    cases c <;> simp only [decM] at hx <;> try (cases hx; done)
    split at hx <;> try (cases hx; done)
    rename_i hy
    split at hx <;> try (cases hx; done)
    cases hx
    rw [encL,List.map_cons,List.map_cons,decM_mask (i + 1) hy]; rfl
theorem dropU_get (K : Hp) : ∀ (l : List Nat) (k : Nat),apH K (dropU l) k = if k ∈ l then none else K k
  | [],k => by simp [dropU,apH]
  | j :: r,k => by
    show (bif Nat.beq k j then none else apH K (dropU r) k) = _
    simp only [beq_iff']
    by_cases e : k = j
    · simp [e]
    · simp only [e,decide_false,cond_false,List.mem_cons,false_or]
      exact dropU_get K r k
theorem grabM_rep {E1 E2 : En} {U U2 : Nat → Bool} {w w0 : World} {M : Nat → Prop} {H : Hp} {m : List (Nat × Nat)} (hs : HSat w0 M E1 U H w) : ∀ {bs : List (Nat × Nat)} {q : List SV},grabM H m bs = some q →
    ∃ vals,RepL E1 U w q vals ∧ ∀ es,RepL E2 U2 w es vals → es.map isArr = q.map isArr → ∀ k cs,lookB bs es k = some cs → k ∈ bs.map (·.1) ∧ (∃ cs0,H (look m k) = some (.box cs0)) ∧ ∃ vs ty,w.heap[E1.ρ (look m k)]? = some (.cells (List.toArray (flatV cs vs)) ty (0,0)) ∧ RepL E2 U2 w cs vs
  | [],q,h => by
    cases h
    exact ⟨[],RepL.nil,fun es _ _ k cs hk => by cases hk⟩
  | (k0,n) :: r,q,h => by
    simp only [grabM] at h
    split at h <;> try (cases h; done)
    rename_i cs0 q' hk0 hq
    split at h <;> try (cases h; done)
    rename_i hn
    cases h
    obtain ⟨_,vs,ty,hh,hr⟩:=hs.ob _ _ hk0
    obtain ⟨vals,h1,h2⟩:=grabM_rep (E2:=E2) (U2:=U2) hs hq
    have hl : vs.length = n:=by rw [hr.length]; exact Nat.eq_of_beq_eq_true hn
    refine ⟨vs ++ vals,hr.append h1,fun es he hmask k cs hk => ?_⟩
    have hnl:=Nat.eq_of_beq_eq_true hn
    simp only [lookB,beq_iff'] at hk
    by_cases e : k = k0
    · subst e
      simp only [decide_true,cond_true,Option.some.injEq] at hk
      subst hk
      have hm1 : (es.take n).map isArr = cs0.map isArr:=by
        rw [List.map_take,hmask,List.map_append,List.take_left' (by rw [List.length_map]; exact hnl)]
      refine ⟨by simp,⟨_,hk0⟩,vs,ty,by rw [flatV_congr hm1]; exact hh,?_⟩
      have:=he.take n
      rw [← hl,List.take_left,hl] at this
      exact this
    · simp only [e,decide_false,cond_false] at hk
      have:=he.drop n
      rw [← hl,List.drop_left,hl] at this
      obtain ⟨h3,h4⟩:=h2 _ this (by rw [List.map_drop,hmask,List.map_append,List.drop_left' (by rw [List.length_map]; exact hnl)]) k cs hk
      exact ⟨List.mem_cons_of_mem _ h3,h4⟩
theorem updBx_get {m : List (Nat × Nat)} {K : Hp} : ∀ {ids : List Nat} {bx : List (List SV)} (k : Nat),bx.length = ids.length → (∀ i ∈ ids,(i,look m i) ∈ m) → (m.map (·.2)).Nodup →
    (k ∉ ids.map (look m) ∧ apH K (updBx m ids bx) k = K k) ∨ (∃ i b,i ∈ ids ∧ k = look m i ∧ lookBx ids bx i = some b ∧ apH K (updBx m ids bx) k = some b)
  | [],bx,k,hl,_,_ => .inl ⟨by simp,by cases bx <;> rfl⟩
  | i :: r,[],k,hl,_,_ => by simp at hl
  | i :: r,cs :: q,k,hl,hm,hn => by
    have ih:=updBx_get (K:=K) (ids:=r) (bx:=q) k (by simpa using hl) (fun j hj => hm j (List.mem_cons_of_mem _ hj)) hn
    show (_ ∧ (bif Nat.beq k (look m i) then some (Ob.box cs) else apH K (updBx m r q) k) = K k) ∨ (∃ i' b,_ ∧ _ ∧ _ ∧ (bif Nat.beq k (look m i) then some (Ob.box cs) else apH K (updBx m r q) k) = some b)
    simp only [beq_iff']
    by_cases e : k = look m i
    · right
      refine ⟨i,.box cs,by simp,e,by simp [lookBx,Nat.beq_refl],by simp [e]⟩
    · simp only [e,decide_false,cond_false]
      rcases ih with ⟨h1,h2⟩ | ⟨i',b,h1,h2,h3,h4⟩
      · exact .inl ⟨by simp [e]; simpa using h1,h2⟩
      · refine .inr ⟨i',b,List.mem_cons_of_mem _ h1,h2,?_,h4⟩
        have : i' ≠ i:=fun he => e (by rw [h2,he])
        simp only [lookBx,beq_iff',this,decide_false,cond_false]
        exact h3
theorem updNew_get {K : Hp} : ∀ {ns : List Ob} {base : Nat} (k : Nat),(¬ (base ≤ k ∧ k < base + ns.length) ∧ apH K (updNew base ns) k = K k) ∨ (∃ j b,k = base + j ∧ ns[j]? = some b ∧ apH K (updNew base ns) k = some b)
  | [],base,k => .inl ⟨by simp,rfl⟩
  | o :: r,base,k => by
    have ih:=updNew_get (K:=K) (ns:=r) (base:=base + 1) k
    show (_ ∧ (bif Nat.beq k base then some o else apH K (updNew (base + 1) r) k) = K k) ∨ (∃ j b,_ ∧ _ ∧ (bif Nat.beq k base then some o else apH K (updNew (base + 1) r) k) = some b)
    simp only [beq_iff']
    by_cases e : k = base
    · exact .inr ⟨0,o,by simp [e],by simp,by simp [e]⟩
    · simp only [e,decide_false,cond_false]
      rcases ih with ⟨h1,h2⟩ | ⟨j,b,h1,h2,h3⟩
      · exact .inl ⟨by simp only [List.length_cons]; omega,h2⟩
      · exact .inr ⟨j + 1,b,by omega,by simpa using h2,h3⟩
theorem lookNew_of : ∀ {ns : List Ob} {i j : Nat} {o : Ob},ns[j]? = some o → lookNew i ns (i + j) = some o
  | p :: r,i,0,o,h => by simp at h; subst h; simp [lookNew,Nat.beq_refl]
  | p :: r,i,j + 1,o,h => by
    simp only [lookNew,beq_iff']
    have : i + (j + 1) ≠ i:=by omega
    simp only [this,decide_false,cond_false]
    have:=lookNew_of (ns:=r) (i:=i + 1) (j:=j) (o:=o) (by simpa using h)
    rw [show i + (j + 1) = i + 1 + j from by omega]; exact this
theorem grabM_congr {H H1 : Hp} {m : List (Nat × Nat)} (h : ∀ k cs,H k = some (.box cs) → H1 k = some (.box cs)) : ∀ {bs : List (Nat × Nat)} {q : List SV},grabM H m bs = some q → grabM H1 m bs = some q
  | [],q,hq => hq
  | (k0,n) :: r,q,hq => by
    simp only [grabM] at hq ⊢
    split at hq <;> try (cases hq; done)
    rename_i cs0 q' hk0 hq'
    rw [h _ _ hk0]
    simp only [grabM_congr h hq']
    exact hq
theorem grabM_box {H : Hp} {m : List (Nat × Nat)} : ∀ {bs : List (Nat × Nat)} {q : List SV},grabM H m bs = some q → ∀ i ∈ bs.map (·.1),∃ cs,H (look m i) = some (.box cs)
  | (k0,n) :: r,q,hq,i,hi => by
    simp only [grabM] at hq
    split at hq <;> try (cases hq; done)
    rename_i cs0 q' hk0 hq'
    rcases List.mem_cons.1 hi with rfl | hi
    · exact ⟨cs0,hk0⟩
    · exact grabM_box hq' i hi
  | [],_,_,_,hi => by cases hi
theorem lookBx_none : ∀ {ids : List Nat} {bx : List (List SV)} {k : Nat},k ∉ ids → lookBx ids bx k = none
  | [],bx,k,_ => by cases bx <;> rfl
  | i :: r,[],k,_ => rfl
  | i :: r,c :: q,k,h => by
    simp only [lookBx,beq_iff']
    have : k ≠ i:=fun e => h (by simp [e])
    simp only [this,decide_false,cond_false]
    exact lookBx_none fun hm => h (List.mem_cons_of_mem _ hm)
theorem lookBx_map {g : List SV → List SV} : ∀ {ids : List Nat} {bx : List (List SV)} {k : Nat} {b : Ob},lookBx ids (bx.map g) k = some b → ∃ cs,cs ∈ bx ∧ b = .box (g cs) ∧ lookBx ids bx k = some (.box cs)
  | [],bx,k,b,h => by cases bx <;> cases h
  | i :: r,[],k,b,h => by cases h
  | i :: r,c :: q,k,b,h => by
    simp only [List.map_cons,lookBx,beq_iff'] at h ⊢
    by_cases e : k = i
    · simp only [e,decide_true,cond_true,Option.some.injEq] at h ⊢
      exact ⟨c,by simp,h.symm,rfl⟩
    · simp only [e,decide_false,cond_false] at h ⊢
      obtain ⟨cs,h1,h2,h3⟩:=lookBx_map h
      exact ⟨cs,List.mem_cons_of_mem _ h1,h2,h3⟩
theorem updFx_get {m : List (Nat × Nat)} {K : Hp} : ∀ {ids : List Nat} {fx : List Ob} (k : Nat),fx.length = ids.length → (∀ i ∈ ids,(i,look m i) ∈ m) → (m.map (·.2)).Nodup →
    (k ∉ ids.map (look m) ∧ apH K (updFx m ids fx) k = K k) ∨ (∃ i b,i ∈ ids ∧ k = look m i ∧ lookFx ids fx i = some b ∧ apH K (updFx m ids fx) k = some b ∧ b ∈ fx)
  | [],[],k,_,_,_ => .inl ⟨by simp,rfl⟩
  | [],_ :: _,k,h,_,_ => by simp at h
  | _ :: _,[],k,h,_,_ => by simp at h
  | i :: r,o :: q,k,hl,hm,hn => by
    have ih:=updFx_get (K:=K) (ids:=r) (fx:=q) k (by simpa using hl) (fun j hj => hm j (List.mem_cons_of_mem _ hj)) hn
    show (_ ∧ (bif Nat.beq k (look m i) then some o else apH K (updFx m r q) k) = K k) ∨ (∃ i' b,_ ∧ _ ∧ _ ∧ (bif Nat.beq k (look m i) then some o else apH K (updFx m r q) k) = some b ∧ _)
    simp only [beq_iff']
    by_cases e : k = look m i
    · refine .inr ⟨i,o,by simp,e,by simp [lookFx,Nat.beq_refl],by simp [e],by simp⟩
    · simp only [e,decide_false,cond_false]
      rcases ih with ⟨h1,h2⟩ | ⟨i',b,h1,h2,h3,h4,h5⟩
      · exact .inl ⟨by simp only [List.map_cons,List.mem_cons,not_or]; exact ⟨e,h1⟩,h2⟩
      · refine .inr ⟨i',b,List.mem_cons_of_mem _ h1,h2,?_,h4,List.mem_cons_of_mem _ h5⟩
        have : i' ≠ i:=fun e' => e (by rw [h2,e'])
        simp only [lookFx,beq_iff',this,decide_false,cond_false]
        exact h3
theorem lookFx_none : ∀ {ids : List Nat} {fx : List Ob} {k : Nat},k ∉ ids → lookFx ids fx k = none
  | [],_,_,_ => rfl
  | _ :: _,[],_,_ => rfl
  | i :: r,o :: q,k,h => by
    have : k ≠ i:=fun e => h (by simp [e])
    simp only [lookFx,beq_iff',this,decide_false,cond_false]
    exact lookFx_none fun hm => h (List.mem_cons_of_mem _ hm)
theorem MC.conOk {P : Program} (c : MC P) : ConOk P c.f c.con:=by
  intro args H base eff he E U w vals hs hr hnews hnd
  unfold MC.con at he
  simp only at he
  generalize hm : bindB H c.L.boxes (addM [] (bindL (c.L.slots.map (·.2)) args)) = m at he
  generalize hbids : c.L.boxes.map (·.1) = bids at he
  generalize hfids : fixIds c.L.shs = fids at he
  generalize hids : bids ++ fids = ids at he
  split at he <;> try (cases he; done)
  rename_i q hq
  split at he <;> try (cases he; done)
  rename_i x hx
  generalize hfx0 : (c.out x).news.take fids.length = fx at he
  generalize hnw0 : (c.out x).news.drop fids.length = nw at he
  generalize hkn : (fun k => inL ids k || (Nat.ble newBase k && Nat.blt (k - newBase) nw.length)) = known at he
  generalize hfd : (fun k => bif inL ids k then look m k else base + (k - newBase)) = f at he
  generalize hcond : (nodupB (m.map (·.2)) && nodupB (m.map (·.1)) && (ids.all fun i => inL (m.map (·.1)) i) && (m.all fun p => inL ids p.1) && Nat.beq (c.out x).boxes.length bids.length && Nat.beq args.length c.L.slots.length
          && ((frzL c.L.shs (args ++ q)).all fun k => !inL (m.map (·.2)) k) && okRows (frzL c.L.shs (args ++ q)) c.L.shs (args ++ q) && (((c.out x).boxes.all fun cs => (idsL cs).all known) && nw.all newOk && (idsOf (c.out x).res).all known)
          && (Nat.beq fx.length fids.length && fx.all isRowOb && (fids.all fun i => !inL bids i) && (rowSrc c.L.shs (args ++ q)).all fun k => !inL (m.map (·.2)) k)) = cond at he
  cases cond with
  | false => cases he
  | true =>
  rw [cond_true] at he
  cases he
  rw [Bool.and_eq_true] at hcond
  obtain ⟨hcond,hcond3⟩:=hcond
  simp only [Bool.and_eq_true,List.all_eq_true,Bool.not_eq_true'] at hcond3
  obtain ⟨⟨⟨hfxl,hfxr⟩,hdis⟩,hrm⟩:=hcond3
  have hfxl:=Nat.eq_of_beq_eq_true hfxl
  rw [Bool.and_eq_true] at hcond
  obtain ⟨hcond,hcond2⟩:=hcond
  rw [Bool.and_eq_true,Bool.and_eq_true] at hcond2
  obtain ⟨⟨hbdat,hnok⟩,hres⟩:=hcond2
  rw [List.all_eq_true] at hres hnok hbdat
  simp only [Bool.and_eq_true] at hcond
  obtain ⟨⟨⟨⟨⟨⟨⟨hn2,hn1⟩,hdom⟩,hsub⟩,hbl⟩,hal⟩,hfzm⟩,hokr⟩:=hcond
  rw [List.all_eq_true] at hdom hsub hfzm
  have hn2:=nodupB_iff hn2
  have hn1:=nodupB_iff hn1
  have hbl:=Nat.eq_of_beq_eq_true hbl
  have hal:=Nat.eq_of_beq_eq_true hal
  have hmok:=c.mok
  simp only [Lay.mok,Bool.and_eq_true,List.isEmpty_iff] at hmok
  obtain ⟨⟨⟨hrb,hrecs⟩,hlow⟩,hflow⟩:=hmok
  have hrb:=Nat.le_of_ble_eq_true hrb
  unfold rowBase at hrb
  rw [List.all_eq_true] at hlow hflow
  have hidlow : ∀ i ∈ ids,i < newBase:=fun i hi => by
    rw [← hids] at hi
    rcases List.mem_append.1 hi with hi | hi
    · rw [← hbids] at hi
      obtain ⟨b,hb,rfl⟩:=List.mem_map.1 hi
      simpa [Nat.blt_eq] using hlow b hb
    · rw [← hfids] at hi
      simpa [Nat.blt_eq] using hflow i hi
  have hbi : ∀ i ∈ bids,i ∈ ids:=fun i hi => by rw [← hids]; exact List.mem_append_left _ hi
  have hfi : ∀ i ∈ fids,i ∈ ids:=fun i hi => by rw [← hids]; exact List.mem_append_right _ hi
  have hmem : ∀ i ∈ ids,(i,look m i) ∈ m:=fun i hi => by
    obtain ⟨p,hp,rfl⟩:=List.mem_map.1 (inL_iff.1 (hdom i hi))
    rw [look_mem hn1 (i:=p.1) (k:=p.2) hp]; exact hp
  have hback : ∀ i ∈ ids,back m (look m i) = i:=fun i hi => back_mem hn2 (hmem i hi)
  have hLids : c.L.ids = ids:=by unfold Lay.ids; rw [hrecs,hfids,hbids,← hids]; simp
  have hsz : c.L.sizes.map (·.1) = bids:=by unfold Lay.sizes; rw [List.map_map,← hbids]; rfl
  have hinm : ∀ i ∈ ids,inL (m.map (·.2)) (look m i) = true:=fun i hi => inL_iff.2 (List.mem_map.2 ⟨_,hmem i hi,rfl⟩)
  -- plain data are given up
  generalize hfz : frzL c.L.shs (args ++ q) = fz at *
  obtain ⟨E1,hle1,hs1,hfr⟩:=hs.freezeAll fz E H
  generalize hH1 : (fun k => if k ∈ fz then frzOb (H k) else H k) = H1 at hs1
  have hH1' : ∀ k,H1 k = if k ∈ fz then frzOb (H k) else H k:=fun k => by rw [← hH1]
  have hbox1 : ∀ k cs,H k = some (.box cs) → H1 k = some (.box cs):=fun k cs h => by
    rw [hH1',h]; split <;> rfl
  have hq1:=grabM_congr hbox1 hq
  have hfix1 : ∀ i ∈ ids,∀ o,H (look m i) = some o → H1 (look m i) = some o:=fun i hi o h => by
    rw [hH1',if_neg]
    · exact h
    · intro hm
      have:=hfzm _ hm
      rw [hinm i hi] at this; cases this
  generalize hsrc : srcL c.L.rb c.L.shs (args ++ q) = src
  have hsrcge : ∀ k v,src k = some v → c.L.rb ≤ k ∧ k ∈ rowIds c.L.rb c.L.shs:=fun k v h => by
    rw [← hsrc] at h; exact ⟨srcL_ge h,srcL_ids h⟩
  have hsrcid : ∀ k ∈ ids,src k = none:=fun k hk => by
    cases h : src k with
    | none => rfl
    | some v =>
      have h1:=(hsrcge k v h).1
      have h2:=hidlow k hk
      unfold newBase at h2; omega
  let Ec : En:=⟨fun i => match src i with
    | some (.own j) => E1.ρ j
    | _ => E1.ρ (look m i),fun i => match src i with
    | some (.own j) => E1.sv j
    | some .nils => .slice none 0 0
    | _ => E1.sv (look m i),E1.I,E1.rc⟩
  have hEid : ∀ i ∈ ids,Ec.ρ i = E1.ρ (look m i) ∧ Ec.sv i = E1.sv (look m i):=fun i hi => by
    simp only [Ec,hsrcid i hi,and_self]
  have hEown : ∀ k j,src k = some (.own j) → Ec.ρ k = E1.ρ j ∧ Ec.sv k = E1.sv j:=fun k j h => by
    simp only [Ec,h,and_self]
  have hEnil : ∀ k,src k = some .nils → Ec.sv k = .slice none 0 0:=fun k h => by
    simp only [Ec,h]
  have hused : ∀ k,(c.L.st noU x).used k = true ↔ (k ∈ ids ∨ k ∈ rowIds c.L.rb c.L.shs):=fun k => by
    show usd noU (c.L.ids ++ rowIds c.L.rb c.L.shs) k = true ↔ _
    unfold usd
    rw [hLids]
    simp only [Bool.false_or]
    rw [inL_iff,List.mem_append]
  obtain ⟨bvals,hb1,hb2⟩:=grabM_rep (E2:=Ec) (U2:=(c.L.st noU x).used) hs1 hq1
  have hvl:=hr.length
  have hrep:=decM_rep (E2:=Ec) (U2:=(c.L.st noU x).used) (bs:=c.L.ids) hs1 rfl (fun i hi => ⟨(hused i).2 (.inl (hLids ▸ hi)),hEid i (hLids ▸ hi)⟩) c.L.rb hx (fun k hk => by rw [hH1',if_pos (hfz ▸ hk)])
    (fun k v hk => by
      rcases srcL_kindM hx hk with ⟨j,_,_,_,rfl,_⟩ | rfl
      · rw [hsrc] at hk
        exact ⟨(hused k).2 (.inr (hsrcge k _ hk).2),.inl ⟨j,rfl,(hEown k j hk).2⟩⟩
      · rw [hsrc] at hk
        exact ⟨(hused k).2 (.inr (hsrcge k _ hk).2),.inr ⟨rfl,hEnil k hk⟩⟩) c.pok ((RepL.mono hle1 _ _ hr).append hb1)
  have hpar : RepL Ec (c.L.st noU x).used w (c.L.params x) vals:=by
    have:=hrep.take c.L.slots.length
    rwa [List.take_left' (by omega)] at this
  have hbe:=hb2 ((encL c.L.rb c.L.shs x).drop c.L.slots.length) (by
    have:=hrep.drop c.L.slots.length
    rwa [List.drop_left' (by omega)] at this) (by rw [List.map_drop,decM_mask c.L.rb hx,List.map_append,List.drop_left' (by rw [List.length_map]; omega)])
  have hH0 : ∀ k o,(c.L.st noU x).heap k = some o →
      (k ∈ ids ∧ ∃ cs cs0,o = .box cs ∧ H1 (look m k) = some (.box cs0) ∧ ∃ vs ty,w.heap[E1.ρ (look m k)]? = some (.cells (List.toArray (flatV cs vs)) ty (0,0)) ∧ RepL Ec (c.L.st noU x).used w cs vs) ∨
      (k ∈ ids ∧ ∃ e t l,o = .row e t l ∧ H1 (look m k) = some (.row e t l)) ∨
      (∃ e t l v,o = .row e t l ∧ src k = some v ∧ ((∃ j,v = .own j ∧ H1 j = some (.row e t l) ∧ j ∈ rowSrc c.L.shs (args ++ q)) ∨ (v = .nils ∧ l = []))):=by
    intro k o hk
    replace hk : (match lookB c.L.sizes ((encL c.L.rb c.L.shs x).drop c.L.slots.length) k with
      | some cs => some (.box cs)
      | none => match lookR c.L.recs k with
        | some o => some o
        | none => rowsL c.L.rb c.L.shs x k) = some o:=hk
    split at hk
    · rename_i cs hcs
      cases hk
      obtain ⟨h1,⟨cs0,h2⟩,vs,ty,h3,h4⟩:=hbe k cs hcs
      rw [hsz] at h1
      exact .inl ⟨hbi k h1,cs,cs0,rfl,h2,vs,ty,h3,h4⟩
    · rw [hrecs] at hk
      rcases rowsL_srcM hx (show rowsL c.L.rb c.L.shs x k = some o from hk) with ⟨e,t,l,v,h1,h2,h3⟩ | ⟨h1,h2,e,t,l,rfl⟩
      case inr => exact .inr (.inl ⟨hfi k (hfids ▸ h1),e,t,l,rfl,hfix1 k (hfi k (hfids ▸ h1)) _ h2⟩)
      refine .inr (.inr ⟨e,t,l,v,h1,hsrc ▸ h2,?_⟩)
      rcases h3 with ⟨j,rfl,h4⟩ | h3
      · refine .inl ⟨j,rfl,?_,?_⟩
        · rw [hH1',if_neg (okRows_seen hokr h2)]; exact h4
        · rcases srcL_kindM hx h2 with ⟨j',_,_,_,h5,_,h6⟩ | h5
          · cases h5; exact h6
          · cases h5
      · exact .inr h3
  let τ0 : Nat → Nat:=fun k => match src k with
    | some (.own j) => j
    | _ => look m k
  have hτ0i : ∀ i ∈ ids,τ0 i = look m i:=fun i hi => by simp only [τ0,hsrcid i hi]
  have hτ0r : ∀ k j,src k = some (.own j) → τ0 k = j:=fun k j h => by simp only [τ0,h]
  have hc0 : HSat w (fun _ => True) Ec (c.L.st noU x).used (c.L.st noU x).heap w:=by
    refine hs1.along τ0 rfl (fun _ _ => trivial) (fun k o ho => ?_) (fun j k o o' hj hk hlj hlk he => ?_) (Frm.refl w _)
    · rcases hH0 k o ho with ⟨h1,cs,cs0,rfl,h2,vs,ty,h3,h4⟩ | ⟨h1,e,t,l,rfl,h2⟩ | ⟨e,t,l,v,rfl,h2,h3⟩
      · refine ⟨(hused k).2 (.inl h1),⟨vs,ty,by rw [(hEid k h1).1]; exact h3,h4⟩,fun _ => ⟨by rw [hτ0i k h1]; exact (hEid k h1).1,_,by rw [hτ0i k h1]; exact h2,by trivial⟩⟩
      · obtain ⟨_,xs,g1,g2,g3⟩:=hs1.ob _ _ h2
        obtain ⟨e1,e2⟩:=hEid k h1
        refine ⟨(hused k).2 (.inl h1),⟨xs,by rw [e2]; exact g1,g2,by rw [e1,e2]; exact g3⟩,fun hl => ⟨by rw [hτ0i k h1]; exact e1,_,by rw [hτ0i k h1]; exact h2,?_⟩⟩
        have hl' : Ec.sv k ≠ .slice none 0 0:=hl
        rw [e2] at hl'
        show E1.sv (τ0 k) ≠ _
        rw [hτ0i k h1]; exact hl'
      · refine ⟨(hused k).2 (.inr (hsrcge k v h2).2),?_,fun hl => ?_⟩
        · rcases h3 with ⟨j,rfl,h4,_⟩ | ⟨rfl,rfl⟩
          · obtain ⟨_,xs,g1,g2,g3⟩:=hs1.ob j _ h4
            obtain ⟨e1,e2⟩:=hEown k j h2
            exact ⟨xs,by rw [e2]; exact g1,g2,by rw [e1,e2]; exact g3⟩
          · have e2:=hEnil k h2
            exact ⟨[],by rw [e2]; exact ownR_nil w e t.size,rfl,.inl e2⟩
        · rcases h3 with ⟨j,rfl,h4,_⟩ | ⟨rfl,rfl⟩
          · obtain ⟨e1,e2⟩:=hEown k j h2
            refine ⟨by rw [hτ0r k j h2]; exact e1,_,by rw [hτ0r k j h2]; exact h4,?_⟩
            have hl' : Ec.sv k ≠ .slice none 0 0:=hl
            rw [e2] at hl'
            show E1.sv (τ0 k) ≠ _
            rw [hτ0r k j h2]; exact hl'
          · exact absurd (hEnil k h2) hl
    · have key : ∀ k o,(c.L.st noU x).heap k = some o → o.live Ec k → (k ∈ ids ∧ τ0 k = look m k) ∨ (∃ j,src k = some (.own j) ∧ τ0 k = j ∧ j ∈ rowSrc c.L.shs (args ++ q)):=by
        intro k o ho hl
        rcases hH0 k o ho with ⟨h1,cs,cs0,rfl,h2,_⟩ | ⟨h1,_⟩ | ⟨e,t,l,v,rfl,h2,h3⟩
        · exact .inl ⟨h1,hτ0i k h1⟩
        · exact .inl ⟨h1,hτ0i k h1⟩
        · rcases h3 with ⟨j,rfl,h4,h5⟩ | ⟨rfl,rfl⟩
          · exact .inr ⟨j,h2,hτ0r k j h2,h5⟩
          · exact absurd (hEnil k h2) hl
      rcases key j o hj hlj with ⟨h1,e1⟩ | ⟨j1,h1,e1,b1⟩ <;> rcases key k o' hk hlk with ⟨h2,e2⟩ | ⟨j2,h2,e2,b2⟩
      · rw [e1,e2] at he
        rw [← hback j h1,← hback k h2,he]
      · rw [e1,e2] at he
        have:=hrm _ b2
        rw [← he,hinm j h1] at this; cases this
      · rw [e1,e2] at he
        have:=hrm _ b1
        rw [he,hinm k h2] at this; cases this
      · rw [e1,e2] at he
        subst he
        rw [← hsrc] at h1 h2
        exact okRows_inj hokr h1 h2
  have hc:=hc0.restr (fun _ => true)
  rw [rs_all] at hc
  refine (c.ok x hnd Ec w vals hc hpar).mono ?_
  rintro e w' ⟨v,rfl,E',U',hle',h',hI',hrep'⟩
  refine ⟨v,rfl,?_⟩
  have hnewU : ∀ k,base ≤ k → k < base + nw.length → U k = false:=fun k h1 h2 =>
    hnews k (List.mem_map.2 ⟨k - base,List.mem_range.2 (by omega),by show base + (k - base) = k; omega⟩)
  generalize hnw : (List.range nw.length).map (base + ·) = news
  have hmemn : ∀ k,k ∈ news ↔ base ≤ k ∧ k < base + nw.length:=fun k => by
    rw [← hnw,List.mem_map]
    constructor
    · rintro ⟨j,hj,rfl⟩
      have:=List.mem_range.1 hj
      exact ⟨by omega,by omega⟩
    · rintro ⟨h1,h2⟩
      exact ⟨k - base,List.mem_range.2 (by omega),by omega⟩
  have hapU : ∀ k,apU U news k = true ↔ (U k = true ∨ k ∈ news):=fun k => by
    unfold apU
    rw [Bool.or_eq_true,show news.any (Nat.beq k) = inL news k from rfl,inL_iff]
  let E2 : En:=⟨fun k => if base ≤ k ∧ k < base + nw.length then E'.ρ (newBase + (k - base)) else E1.ρ k,fun k => if base ≤ k ∧ k < base + nw.length then E'.sv (newBase + (k - base)) else E1.sv k,E'.I,E1.rc⟩
  have hold : ∀ k,U k = true → ¬ (base ≤ k ∧ k < base + nw.length):=fun k hk h => by
    rw [hnewU k h.1 h.2] at hk; cases hk
  have hleE : En.Le U (apU U news) E1 E2 w w':=⟨fun k hk => (hapU k).2 (.inl hk),fun k hk => if_neg (hold k hk),fun k hk => if_neg (hold k hk),hle'.imm,hle'.heap,fun _ _ => rfl⟩
  have hboxes : ∀ i ∈ ids,∃ o0,H1 (look m i) = some o0:=fun i hi => by
    rw [← hids] at hi
    rcases List.mem_append.1 hi with hi | hi
    · obtain ⟨cs0,h⟩:=grabM_box hq1 i (hsz ▸ hi)
      exact ⟨_,h⟩
    · obtain ⟨e,t,n,h⟩:=decM_fix hx (hfids ▸ hi)
      exact ⟨_,hfix1 i (hfi i hi) _ h⟩
  have hUm : ∀ i ∈ ids,U (look m i) = true:=fun i hi => by
    obtain ⟨o0,h⟩:=hboxes i hi
    exact (hs1.ob _ _ h).1
  generalize hrs : rowSrc c.L.shs (args ++ q) = rsrc at *
  let ids2 : Nat → Bool:=fun k => inL (ids.map (look m) ++ rsrc) k
  have hM : ∀ b,Mof Ec (c.L.st noU x).heap b → Mof E1 (rs H1 ids2) b:=by
    rintro b ⟨i,⟨o,ho,hl⟩,hbe⟩
    rcases hH0 i o ho with ⟨h1,cs,cs0,rfl,h2,_⟩ | ⟨h1,e,t,l,rfl,h2⟩ | ⟨e,t,l,v,rfl,h2,h3⟩
    · refine ⟨look m i,⟨.box cs0,?_,trivial⟩,by rw [← hbe,(hEid i h1).1]⟩
      unfold rs
      rw [show ids2 (look m i) = true from inL_iff.2 (List.mem_append_left _ (List.mem_map_of_mem h1)),cond_true]
      exact h2
    · obtain ⟨e1,e2⟩:=hEid i h1
      refine ⟨look m i,⟨.row e t l,?_,?_⟩,by rw [← hbe,e1]⟩
      · unfold rs
        rw [show ids2 (look m i) = true from inL_iff.2 (List.mem_append_left _ (List.mem_map_of_mem h1)),cond_true]
        exact h2
      · have hl' : Ec.sv i ≠ .slice none 0 0:=hl
        rw [e2] at hl'
        exact hl'
    · rcases h3 with ⟨j,rfl,h4,h5⟩ | ⟨rfl,rfl⟩
      · obtain ⟨e1,e2⟩:=hEown i j h2
        refine ⟨j,⟨.row e t l,?_,?_⟩,by rw [← hbe,e1]⟩
        · unfold rs
          rw [show ids2 j = true from inL_iff.2 (List.mem_append_right _ h5),cond_true]
          exact h4
        · have hl' : Ec.sv i ≠ .slice none 0 0:=hl
          rw [e2] at hl'
          exact hl'
      · exact absurd (hEnil i h2) hl
  have hcl : ∀ k b,apH (rs H1 ids2) (updBx m bids ((c.out x).boxes.map (renL f)) ++ updFx m fids fx ++ updNew base nw ++ dropU rsrc) k = some b →
      (∃ i cs,i ∈ ids ∧ k = look m i ∧ b = .box (renL f cs) ∧ cs ∈ (c.out x).boxes ∧ ((c.out x).heap c.L) i = some (.box cs)) ∨ (∃ i,i ∈ ids ∧ k = look m i ∧ ((c.out x).heap c.L) i = some b ∧ isRowOb b = true) ∨ (∃ j,k = base + j ∧ j < nw.length ∧ ((c.out x).heap c.L) (newBase + j) = some b ∧ newOk b = true):=by
    intro k b hk
    rw [apH_append,apH_append,apH_append] at hk
    rcases updBx_get (K:=apH (apH (apH (rs H1 ids2) (dropU rsrc)) (updNew base nw)) (updFx m fids fx)) k (bx:=(c.out x).boxes.map (renL f)) (by rw [List.length_map]; exact hbl) (fun i hi => hmem i (hbi i hi)) hn2 with ⟨h1,h2⟩ | ⟨i,b',h1,h2,h3,h4⟩
    · rw [h2] at hk
      rcases updFx_get (K:=apH (apH (rs H1 ids2) (dropU rsrc)) (updNew base nw)) k hfxl (fun i hi => hmem i (hfi i hi)) hn2 with ⟨h1',h2'⟩ | ⟨i,b',g1,g2,g3,g4,g5⟩
      · rw [h2'] at hk
        rcases updNew_get (K:=apH (rs H1 ids2) (dropU rsrc)) (ns:=nw) (base:=base) k with ⟨h3,h4⟩ | ⟨j,b',h3,h4,h5⟩
        · rw [h4,dropU_get] at hk
          split at hk
          · cases hk
          · rename_i hnr
            unfold rs at hk
            cases hi : ids2 k with
            | true =>
              rcases List.mem_append.1 (inL_iff.1 hi) with h | h
              · rw [← hids,List.map_append] at h
                rcases List.mem_append.1 h with h | h
                · exact absurd h h1
                · exact absurd h h1'
              · exact absurd h hnr
            | false => rw [hi] at hk; cases hk
        · rw [h5] at hk
          cases hk
          have hlt:=(List.getElem?_eq_some_iff.1 h4).1
          refine .inr (.inr ⟨j,h3,hlt,?_,hnok _ (List.mem_of_getElem? h4)⟩)
          unfold MOut.heap
          rw [hbids,hfids,lookBx_none (fun hm => by have:=hidlow _ (hbi _ hm); omega),lookFx_none (fun hm => by have:=hidlow _ (hfi _ hm); omega),hnw0]
          exact lookNew_of h4
      · rw [g4] at hk
        cases hk
        refine .inr (.inl ⟨i,hfi i g1,g2,?_,hfxr _ g5⟩)
        unfold MOut.heap
        rw [hbids,hfids,lookBx_none (fun hm => by have:=hdis i g1; rw [inL_iff.2 hm] at this; cases this),hfx0,g3]
    · rw [h4] at hk
      cases hk
      obtain ⟨cs,h5,h6,h7⟩:=lookBx_map h3
      refine .inl ⟨i,cs,hbi i h1,h2,h6,h5,?_⟩
      unfold MOut.heap
      rw [hbids,h7]
  let τ : Nat → Nat:=fun k => if base ≤ k ∧ k < base + nw.length then newBase + (k - base) else back m k
  have hτi : ∀ i ∈ ids,τ (look m i) = i ∧ E2.ρ (look m i) = E'.ρ i ∧ E2.sv (look m i) = E'.sv i:=fun i hi => by
    have hno:=hold _ (hUm i hi)
    refine ⟨by simp only [τ,if_neg hno]; exact hback i hi,?_,?_⟩
    · show (if _ then _ else _) = _
      rw [if_neg hno,hle'.rho i ((hused i).2 (.inl hi)),(hEid i hi).1]
    · show (if _ then _ else _) = _
      rw [if_neg hno,hle'.sv i ((hused i).2 (.inl hi)),(hEid i hi).2]
  have hτn : ∀ j,j < nw.length → τ (base + j) = newBase + j ∧ E2.ρ (base + j) = E'.ρ (newBase + j) ∧ E2.sv (base + j) = E'.sv (newBase + j):=fun j hj => by
    have hyes : base ≤ base + j ∧ base + j < base + nw.length:=⟨by omega,by omega⟩
    have e : base + j - base = j:=by omega
    refine ⟨by simp only [τ,if_pos hyes,e],?_,?_⟩
    · show (if _ then _ else _) = _
      rw [if_pos hyes,e]
    · show (if _ then _ else _) = _
      rw [if_pos hyes,e]
  have hknown : ∀ k,known k = true → apU U news (f k) = true ∧ E2.ρ (f k) = E'.ρ k ∧ E2.sv (f k) = E'.sv k:=fun k hk => by
    rw [← hkn] at hk
    rw [← hfd]
    simp only at hk ⊢
    cases hb : inL ids k with
    | true =>
      have hk':=inL_iff.1 hb
      simp only [cond_true]
      exact ⟨(hapU _).2 (.inl (hUm k hk')),(hτi k hk').2.1,(hτi k hk').2.2⟩
    | false =>
      rw [hb,Bool.false_or,Bool.and_eq_true] at hk
      have h5:=Nat.le_of_ble_eq_true hk.1
      have h6 : k - newBase < nw.length:=by simpa [Nat.blt_eq] using hk.2
      simp only [cond_false]
      obtain ⟨t1,t2,t3⟩:=hτn (k - newBase) h6
      rw [t2,t3,show newBase + (k - newBase) = k from by omega]
      exact ⟨(hapU _).2 (.inr ((hmemn _).2 ⟨by omega,by omega⟩)),rfl,rfl⟩
  have hobr : ∀ k i b,newOk b = true → E2.ρ k = E'.ρ i → E2.sv k = E'.sv i → ObRep E' U' w' i b → ObRep E2 (apU U news) w' k b:=by
    intro k i b hb h1 h2 hr
    cases b with
    | box cs =>
      obtain ⟨vs,ty,h3,h4⟩:=hr
      exact ⟨vs,ty,by rw [h1]; exact h3,data_repL (E:=E') (E':=E2) rfl _ _ hb h4⟩
    | row e t l =>
      obtain ⟨xs,h3,h4,h5⟩:=hr
      exact ⟨xs,by rw [h2]; exact h3,h4,by rw [h1,h2]; exact h5⟩
    | frz t l => cases hb
    | clip t l => cases hb
    | rnd p => cases hb
    | hole e vs ii x => cases hb
    | mp es =>
      obtain ⟨ents,clock,h3,h4⟩:=hr
      exact ⟨ents,clock,by rw [h1]; exact h3,h4⟩
  have h2 : HSat w (Mof E1 (rs H1 ids2)) E2 (apU U news) (apH (rs H1 ids2) (updBx m bids ((c.out x).boxes.map (renL f)) ++ updFx m fids fx ++ updNew base nw ++ dropU rsrc)) w':=by
    refine h'.along τ rfl hM (fun k b hk => ?_) (fun j k b b' hj hk _ _ he => ?_) ⟨h'.frame.os,h'.frame.tape,h'.frame.output,h'.frame.size,h'.frame.drawn,fun b hb hm => h'.frame.block b hb fun hx => hm (hM b hx)⟩
    · rcases hcl k b hk with ⟨i,cs,h1,rfl,rfl,h2,h3⟩ | ⟨i,h1,rfl,h3,h4⟩ | ⟨j,rfl,h1,h3,h4⟩
      · obtain ⟨t1,t2,t3⟩:=hτi i h1
        obtain ⟨_,vs,ty,g1,g2⟩:=h'.ob i _ h3
        refine ⟨(hapU _).2 (.inl (hUm i h1)),⟨vs,ty,by rw [t2,flatV_congr (renL_mask f cs)]; exact g1,?_⟩,fun _ => ⟨by rw [t1,t2],.box cs,by rw [t1]; exact h3,trivial⟩⟩
        exact ren_repL (E:=E') (E2:=E2) rfl cs vs (fun k hk => hknown k (List.all_eq_true.1 (hbdat cs h2) k hk)) g2
      · obtain ⟨t1,t2,t3⟩:=hτi i h1
        cases b with
        | row e t l =>
          refine ⟨(hapU _).2 (.inl (hUm i h1)),hobr _ i _ rfl t2 t3 (h'.ob _ _ h3).2,fun hl => ⟨by rw [t1,t2],_,by rw [t1]; exact h3,?_⟩⟩
          rw [t1]
          have hl' : E2.sv (look m i) ≠ .slice none 0 0:=hl
          rw [t3] at hl'
          exact hl'
        | box cs => cases h4
        | frz t l => cases h4
        | clip t l => cases h4
        | rnd p => cases h4
        | hole e vs ii x => cases h4
        | mp es => cases h4
      · obtain ⟨t1,t2,t3⟩:=hτn j h1
        refine ⟨(hapU _).2 (.inr ((hmemn _).2 ⟨by omega,by omega⟩)),hobr _ (newBase + j) _ h4 t2 t3 (h'.ob _ _ h3).2,fun hl => ⟨by rw [t1,t2],_,by rw [t1]; exact h3,?_⟩⟩
        rw [t1]
        cases b with
        | box cs => trivial
        | row e t l =>
          have hl' : E2.sv (base + j) ≠ .slice none 0 0:=hl
          rw [t3] at hl'
          exact hl'
        | frz t l => cases h4
        | hole e vs ii x => cases h4
        | clip t l => cases h4
        | rnd p => cases h4
        | mp es => trivial
    · have nm : ∀ k b,apH (rs H1 ids2) (updBx m bids ((c.out x).boxes.map (renL f)) ++ updFx m fids fx ++ updNew base nw ++ dropU rsrc) k = some b → (∃ i,i ∈ ids ∧ k = look m i) ∨ (∃ j,k = base + j ∧ j < nw.length):=fun k b hk => by
        rcases hcl k b hk with ⟨i,_,h1,h2,_⟩ | ⟨i,h1,h2,_⟩ | ⟨j,h1,h2,_⟩
        · exact .inl ⟨i,h1,h2⟩
        · exact .inl ⟨i,h1,h2⟩
        · exact .inr ⟨j,h1,h2⟩
      rcases nm j b hj with ⟨i,h1,rfl⟩ | ⟨j1,rfl,h1⟩ <;> rcases nm k b' hk with ⟨i',h2,rfl⟩ | ⟨j2,rfl,h2⟩
      · rw [(hτi i h1).1,(hτi i' h2).1] at he; rw [he]
      · rw [(hτi i h1).1,(hτn j2 h2).1] at he
        have:=hidlow i h1; omega
      · rw [(hτn j1 h1).1,(hτi i' h2).1] at he
        have:=hidlow i' h2; omega
      · rw [(hτn j1 h1).1,(hτn j2 h2).1] at he; omega
  have hI2 : FreshI E1 E2 (rs H1 ids2) w:=fun b hb => by
    rcases hI' b hb with h | h | h
    · exact .inl h
    · exact .inr (.inl (hM b h))
    · exact .inr (.inr h)
  obtain ⟨h3,h4⟩:=hs1.frameRule ids2 hleE h2 hI2
  refine ⟨E2,hle1.trans hleE,HSat.congr ?_ h3,fun b hb => ?_,?_⟩
  · rw [apH_append H]
    congr 1
    funext k
    rw [frzUpd_at,hH1']
  · rcases h4 b hb with h | ⟨k,hk,hbe⟩ | h
    · rcases hfr b h with h | h
      · exact .inl h
      · exact .inr (.inl h)
    · rcases hs1.mine k hk with h | h
      · exact .inr (.inl (hbe ▸ h))
      · exact .inr (.inr (hbe ▸ h))
    · exact .inr (.inr h)
  · exact ren_rep (E:=E') (E2:=E2) rfl _ v (fun k hk => hknown k (hres k hk)) hrep'
def MC.gc {P : Program} (c : MC P) : GC P:={ f:=c.f,con:=c.con,ent:=c.ent,ok:=c.conOk }
def PC.gc {P : Program} (c : PC P) : GC P:={ f:=c.f,con:=c.con,ent:=c.ent,ok:=c.conOk }
end Go.Sx
namespace Go.Sx
open Go.RowKit
def tyChk (P : Program) : Nat → TypeId → Option Ty
  | 0,_ => none
  | d + 1,t => match P.underlying t with
    | some (.int k) => some (.int k)
    | some .bool => some .bool
    | some .string => some .str
    | some (.slice e) => match tyChk P d e with
      | some ty => if Nat.ble 1 ty.size && Nat.beq (P.cellsOf e) ty.size then some (.sl ty) else none
      | none => none
    | some (.struct fs) => match flds (tyChk P d) P 0 fs.toList with
      | some ty => if Nat.beq (P.cellsOf t) ty.size then some ty else none
      | none => none
    | _ => none
where
  flds (f : TypeId → Option Ty) (P : Program) (off : Nat) : List Field → Option Ty
    | [] => some .unit
    | [x] => match f x.type with
      | some a => if Nat.beq x.offset off && Nat.beq (P.cellsOf x.type) a.size then some a else none
      | none => none
    | x :: y :: r => match f x.type with
      | some a => if Nat.beq x.offset off && Nat.beq (P.cellsOf x.type) a.size then match flds f P (off + a.size) (y :: r) with
        | some b => some (.pair a b)
        | none => none
        else none
      | none => none
def Ty.ok : (t : Ty) → t.den → Prop
  | .int k,n => k.min ≤ (show Int from n) ∧ (show Int from n) ≤ k.max
  | .bool,_ => True
  | .str,s => (show ByteArray from s).size ≤ maxLen
  | .unit,_ => True
  | .pair a b,d => a.ok d.1 ∧ b.ok d.2
  | .sl e,l => (show List e.den from l).length ≤ maxLen ∧ ∀ x ∈ (show List e.den from l),e.ok x
  | .arr e _,l => ∀ x ∈ (show List e.den from l),e.ok x
theorem mapM_cons_some {α β : Type} {f : α → Option β} {a : α} {l : List α} {r : List β} (h : (a :: l).mapM f = some r) : ∃ x q,f a = some x ∧ l.mapM f = some q ∧ r = x :: q:=by
  rw [List.mapM_cons] at h
  cases hx : f a with
  | none => rw [hx] at h; cases h
  | some x =>
    cases hq : l.mapM f with
    | none => rw [hx,hq] at h; cases h
    | some q =>
      rw [hx,hq] at h
      cases h
      exact ⟨x,q,rfl,rfl,rfl⟩
theorem cells_row {w : World} {base : Nat} {a : Addr} {n : Nat} {cs : List Value} (h : w.cells? base a n = some cs) : cs.length = n ∧ ∀ i v,cs[i]? = some v → w.cell? (a.add i) = some v:=by
  unfold World.cells? at h
  split at h
  · have hl:=mapM_some_length h
    rw [List.length_range] at hl
    refine ⟨hl,fun i v hv => ?_⟩
    have hi : i < n:=by rw [← hl]; exact (List.getElem?_eq_some_iff.1 hv).1
    rw [mapM_some_get h i i (by simp [hi])]
    exact hv
  · cases h
theorem cell_addr {w : World} {a : Addr} {v : Value} (h : w.cell? a = some v) : a.spot = none ∧ a.block < w.heap.size:=by
  unfold World.cell? at h
  split at h
  · rename_i c t fr hb
    refine ⟨?_,(Array.getElem?_eq_some_iff.1 hb).1⟩
    cases hs : a.spot with
    | none => rfl
    | some x => simp [hs] at h
  · cases h
theorem flds_rep {P : Program} {w : World} {H : Type} {f : TypeId → Option Ty} {r : TypeId → List Value → Option (DataW H × List MemPlace)}
    (hr : ∀ t cs x ty,w.noneFrozen x.2 → r t cs = some x → f t = some ty → ∃ d : ty.den,DRep (fun b => b < w.heap.size) w ty d cs ∧ ty.ok d) :
    ∀ (l : List Field) (off : Nat) (ty : Ty) (cs : List Value) (ys : List (DataW H × List MemPlace)),tyChk.flds f P off l = some ty →
      (l.mapM fun g => r g.type ((cs.drop g.offset).take (P.cellsOf g.type))) = some ys → (∀ y ∈ ys,w.noneFrozen y.2) → cs.length = off + ty.size → ∃ d : ty.den,DRep (fun b => b < w.heap.size) w ty d (cs.drop off) ∧ ty.ok d
  | [],off,ty,cs,ys,hf,_,_,hl => by
    cases hf
    refine ⟨(),?_,trivial⟩
    show cs.drop off = []
    rw [List.drop_eq_nil_of_le]
    simp only [Ty.size] at hl
    omega
  | [g],off,ty,cs,ys,hf,hm,hz,hl => by
    simp only [tyChk.flds] at hf
    split at hf <;> try (cases hf; done)
    rename_i a ha
    split at hf <;> try (cases hf; done)
    rename_i hc
    cases hf
    simp only [Bool.and_eq_true] at hc
    have h1:=Nat.eq_of_beq_eq_true hc.1
    have h2:=Nat.eq_of_beq_eq_true hc.2
    obtain ⟨x,q,hx,_,rfl⟩:=mapM_cons_some hm
    obtain ⟨d,hd,hok⟩:=hr _ _ _ _ (hz x (by simp)) hx ha
    rw [h1,h2,List.take_of_length_le (by rw [List.length_drop]; omega)] at hd
    exact ⟨d,hd,hok⟩
  | g :: g' :: l,off,ty,cs,ys,hf,hm,hz,hl => by
    simp only [tyChk.flds] at hf
    split at hf <;> try (cases hf; done)
    rename_i a ha
    split at hf <;> try (cases hf; done)
    rename_i hc
    split at hf <;> try (cases hf; done)
    rename_i b hb
    cases hf
    simp only [Bool.and_eq_true] at hc
    have h1:=Nat.eq_of_beq_eq_true hc.1
    have h2:=Nat.eq_of_beq_eq_true hc.2
    obtain ⟨x,q,hx,hq,rfl⟩:=mapM_cons_some hm
    obtain ⟨d,hd,hok⟩:=hr _ _ _ _ (hz x (by simp)) hx ha
    simp only [Ty.size] at hl
    obtain ⟨d',hd',hok'⟩:=flds_rep hr (g' :: l) (off + a.size) b cs q hb hq (fun y hy => hz y (by simp [hy])) (by omega)
    rw [h1,h2] at hd
    refine ⟨(d,d'),⟨_,_,?_,hd,hd'⟩,hok,hok'⟩
    rw [← List.drop_drop,List.take_append_drop]
theorem list_choose {α β : Type} {R : Nat → α → β → Prop} : ∀ (l : List α) (o : Nat),(∀ i x,l[i]? = some x → ∃ d,R (o + i) x d) → ∃ ds : List β,ds.length = l.length ∧ ∀ i d,ds[i]? = some d → ∃ x,l[i]? = some x ∧ R (o + i) x d
  | [],_,_ => ⟨[],rfl,fun i d h => by simp at h⟩
  | a :: l,o,h => by
    obtain ⟨d,hd⟩:=h 0 a rfl
    obtain ⟨ds,h1,h2⟩:=list_choose l (o + 1) fun i x hx => by
      have:=h (i + 1) x (by simpa using hx)
      rwa [show o + (i + 1) = o + 1 + i from by omega] at this
    refine ⟨d :: ds,by simp [h1],fun i e he => ?_⟩
    cases i with
    | zero => simp at he; subst he; exact ⟨a,rfl,hd⟩
    | succ i =>
      obtain ⟨x,hx,hR⟩:=h2 i e (by simpa using he)
      exact ⟨x,by simpa using hx,by rwa [show o + (i + 1) = o + 1 + i from by omega]⟩
theorem trod_rep {H : Type} {enc : TypeId × Value → H} {P : Program} {w : World} {base : Nat} {spare : Nat → Bool} {held : Bool} : ∀ (m n : Nat) (t : TypeId) (cs : List Value) (x : DataW H × List MemPlace) (ty : Ty),
    w.noneFrozen x.2 → DataW.trod enc P w base spare held n t cs = some x → tyChk P m t = some ty → ∃ d : ty.den,DRep (fun b => b < w.heap.size) w ty d cs ∧ ty.ok d
  | 0,_,_,_,_,_,_,_,h => by cases h
  | m + 1,0,_,_,_,_,_,h,_ => by cases h
  | m + 1,n + 1,t,cs,x,ty,hz,h,hc => by
    unfold DataW.trod at h
    simp only [tyChk] at hc
    split at h
    · rename_i b hu
      rw [hu] at hc
      cases hc
      exact ⟨b,rfl,trivial⟩
    · rename_i k k' z hu
      rw [hu] at hc
      cases hc
      split at h <;> try (cases h; done)
      rename_i hk
      obtain ⟨rfl,hw⟩:=hk
      simp only [Lit.wf,Bool.and_eq_true,decide_eq_true_eq] at hw
      exact ⟨z,rfl,hw⟩
    · rename_i hu
      rw [hu] at hc
      cases hc
    · rename_i s hu
      rw [hu] at hc
      cases hc
      split at h <;> try (cases h; done)
      rename_i hs
      exact ⟨s,rfl,hs⟩
    · rename_i hu
      rw [hu] at hc
      cases hc
    · rename_i hu
      rw [hu] at hc
      cases hc
    · rename_i e hu
      rw [hu] at hc
      dsimp only at hc
      split at hc <;> try (cases hc; done)
      rename_i ty' hty
      split at hc <;> try (cases hc; done)
      cases hc
      exact ⟨[],⟨_,rfl,none,0,rfl,Nat.le_refl _,.inl rfl⟩,Nat.zero_le _,fun x hx => by cases hx⟩
    · rename_i e a len cap hu
      rw [hu] at hc
      dsimp only at hc
      split at hc <;> try (cases hc; done)
      rename_i ty' hty
      split at hc <;> try (cases hc; done)
      rename_i hck
      cases hc
      simp only [Bool.and_eq_true] at hck
      have hsz:=Nat.le_of_ble_eq_true hck.1
      have hco:=Nat.eq_of_beq_eq_true hck.2
      split at h <;> try (cases h; done)
      rename_i hb
      obtain ⟨_,hlc,hcm⟩:=hb
      rw [Option.bind_eq_some_iff] at h
      obtain ⟨elems,hel,hx⟩:=h
      rw [Option.map_eq_some_iff] at hx
      obtain ⟨rest,_,rfl⟩:=hx
      have hll:=mapM_some_length hel
      rw [List.length_range] at hll
      have hone : ∀ i,i < len → ∃ d : ty'.den,∃ cs,(w.cells? base (a.add (i * ty'.size)) ty'.size) = some cs ∧ DRep (fun b => b < w.heap.size) w ty' d cs ∧ ty'.ok d:=fun i hi => by
        have hi' : i < elems.length:=by omega
        have:=mapM_some_get hel i i (by simp [hi])
        rw [List.getElem?_eq_getElem hi',Option.bind_eq_some_iff] at this
        obtain ⟨cs,h1,h2⟩:=this
        rw [hco] at h1
        obtain ⟨d,h3,h4⟩:=trod_rep m n e cs _ ty' (fun b off hm => hz b off (List.mem_append_right _ (List.mem_flatMap.2 ⟨elems[i],List.mem_append_left _ (List.getElem_mem hi'),hm⟩))) h2 hty
        exact ⟨d,cs,h1,h3,h4⟩
      obtain ⟨ds,hdl,hds⟩:=list_choose (R:=fun i (_ : Nat) (d : ty'.den) => ∃ cs,(w.cells? base (a.add (i * ty'.size)) ty'.size) = some cs ∧ DRep (fun b => b < w.heap.size) w ty' d cs ∧ ty'.ok d) (List.range len) 0 (fun i x hx => by
        have hi : i < len:=by simpa using (List.getElem?_eq_some_iff.1 hx).1
        rw [Nat.zero_add]
        exact hone i hi)
      rw [List.length_range] at hdl
      refine ⟨ds,⟨_,rfl,some a,cap,by rw [hdl],by rw [hdl]; exact hlc,?_⟩,by show ds.length ≤ maxLen; omega,fun x hx => ?_⟩
      · by_cases h0 : len = 0
        · left; exact List.eq_nil_of_length_eq_zero (by omega)
        · right
          have ha : a.spot = none ∧ a.block < w.heap.size:=by
            obtain ⟨d,cs,h1,_⟩:=hone 0 (by omega)
            obtain ⟨h2,h3⟩:=cells_row h1
            have h4 : 0 < cs.length:=by omega
            have:=h3 0 cs[0] (List.getElem?_eq_getElem h4)
            simp only [Nat.zero_mul,Addr.add,if_true] at this
            exact cell_addr this
          obtain ⟨b,o,sp⟩:=a
          obtain ⟨hsp,hbl⟩:=ha
          simp only at hsp hbl
          subst hsp
          refine ⟨b,o,rfl,hbl,fun i d hd => ?_⟩
          obtain ⟨_,_,cs,h1,h2,_⟩:=hds i d hd
          rw [Nat.zero_add] at h1
          refine ⟨cs,fun j v hv => ?_,h2⟩
          have:=(cells_row h1).2 j v hv
          have e : ((⟨b,o,none⟩ : Addr).add (i * ty'.size)).add j = ⟨b,o + i * ty'.size + j,none⟩:=by
            unfold Addr.add
            split <;> split <;> simp_all
          rw [e] at this
          refine ⟨this,hz _ _ (List.mem_append_left _ ?_)⟩
          have hi : i < elems.length:=by rw [hll,← hdl]; exact (List.getElem?_eq_some_iff.1 hd).1
          have hj : j < ty'.size:=by rw [← (cells_row h1).1]; exact (List.getElem?_eq_some_iff.1 hv).1
          unfold MemPlace.row
          rw [List.mem_map]
          refine ⟨i * ty'.size + j,List.mem_range.2 ?_,by simp [Nat.add_assoc]⟩
          rw [hco]
          calc i * ty'.size + j < i * ty'.size + ty'.size:=by omega
            _ = (i + 1) * ty'.size:=by rw [Nat.succ_mul]
            _ ≤ (elems.length + rest.length) * ty'.size:=Nat.mul_le_mul_right _ (by omega)
      · obtain ⟨i,hi⟩:=List.getElem?_of_mem hx
        obtain ⟨_,_,_,_,_,h3⟩:=hds i x hi
        exact h3
    · rename_i fs hu
      rw [hu] at hc
      dsimp only at hc
      split at hc <;> try (cases hc; done)
      rename_i ty' hfl
      split at hc <;> try (cases hc; done)
      rename_i hcs
      cases hc
      have hcs:=Nat.eq_of_beq_eq_true hcs
      split at h <;> try (cases h; done)
      rename_i hlen
      rw [Option.map_eq_some_iff] at h
      obtain ⟨ys,hys,rfl⟩:=h
      have:=flds_rep (w:=w) (r:=DataW.trod enc P w base spare held n) (fun t cs x ty hz h1 h2 => trod_rep m n t cs x ty hz h1 h2) fs.toList 0 _ _ ys hfl hys (fun y hy b off hm => hz b off (List.mem_flatMap.2 ⟨y,hy,hm⟩)) (by rw [hlen,hcs]; omega)
      simpa using this
    all_goals first | (rename_i hu; rw [hu] at hc; cases hc; done) | (rename_i hu _; rw [hu] at hc; cases hc; done) | (rename_i hu _ _; rw [hu] at hc; cases hc; done) | (rename_i hu _ _ _; rw [hu] at hc; cases hc; done) | (cases h; done)
end Go.Sx
namespace Go.Sx
open Go.RowKit
def isStruct (P : Program) (t : TypeId) : Bool :=
  match P.underlying t with
  | some (.struct _) => true
  | _ => false
def shOf (P : Program) (t : TypeId) : Option Sh :=
  match tyChk P 9 t with
  | some ty => some (bif isStruct P t then .agg ty else .val ty)
  | none => none
def shsOf (P : Program) : List TypeId → Option (List Sh)
  | [] => some []
  | t :: r => match shOf P t,shsOf P r with
    | some s,some q => some (s :: q)
    | _,_ => none
def Sh.ok : (s : Sh) → s.den → Prop
  | .val t,d => t.ok d
  | .agg t,d => t.ok d
  | _,_ => True
def okL : (l : List Sh) → denL l → Prop
  | [],_ => True
  | s :: r,x => s.ok x.1 ∧ okL r x.2
theorem arg_scalar {I : Nat → Prop} {W : World} {ty : Ty} {d : ty.den} {v : Value} (hv : ∀ cs,v ≠ .agg cs) (hx : DRep I W ty d v.cells.toList) (i : Nat) : Rep (E0 I) noU W ((Sh.val ty).enc i d) v:=by
  have hc : v.cells.toList = [v]:=by cases v <;> first | rfl | exact absurd rfl (hv _)
  rw [hc] at hx
  have h3:=DRep.cells (E:=E0 I) (U:=noU) ty d _ hx
  show Rep _ _ W ((ty.cells d).headD .any) v
  have hl:=h3.length
  match hcs : ty.cells d,h3,hl with
  | [s],h3,_ =>
    obtain ⟨v',e,h4⟩:=repL1 h3
    cases e
    exact h4
theorem arg_rep {H : Type} {enc : TypeId × Value → H} {P : Program} {W : World} {b base : Nat} {sp : Nat → Bool} {held : Bool} {t : TypeId} {v : Value} {d : DataW H} {p : List MemPlace} {s : Sh} {r : Reach}
    (hz : W.noneFrozen p) (h : DataW.Trod enc P W base sp held t v d p) (hok : Value.okWide P W r b t v) (hs : shOf P t = some s) : ∃ x : s.den,(∀ i,Rep (E0 fun b => b < W.heap.size) noU W (s.enc i x) v) ∧ s.ok x:=by
  obtain ⟨fuel,h⟩:=h
  unfold shOf at hs
  split at hs <;> try (cases hs; done)
  rename_i ty hty
  cases hs
  obtain ⟨x,hx,hxo⟩:=trod_rep 9 fuel t _ _ ty hz h hty
  unfold Value.okWide at hok
  unfold isStruct
  cases hu : P.underlying t with
  | none => unfold tyChk at hty; rw [hu] at hty; cases hty
  | some td =>
    rw [hu] at hok
    cases td with
    | struct fs =>
      obtain ⟨cs,rfl,_,_⟩:=hok
      refine ⟨x,fun i => ?_,hxo⟩
      show Rep _ _ W (.agg (ty.cells x)) (.agg cs)
      unfold Rep
      exact ⟨cs.toList,by simp,DRep.cells (E:=E0 fun b => b < W.heap.size) ty x _ hx⟩
    | int k => exact ⟨x,fun i => arg_scalar (fun cs e => by subst e; simp [Cell.okWide,Cell.ok,hu] at hok) hx i,hxo⟩
    | bool => exact ⟨x,fun i => arg_scalar (fun cs e => by subst e; simp [Cell.okWide,Cell.ok,hu] at hok) hx i,hxo⟩
    | string => exact ⟨x,fun i => arg_scalar (fun cs e => by subst e; simp [Cell.okWide,Cell.ok,hu] at hok) hx i,hxo⟩
    | slice e => exact ⟨x,fun i => arg_scalar (fun cs e => by subst e; simp [Cell.okWide,Cell.ok,hu] at hok) hx i,hxo⟩
    | _ => unfold tyChk at hty; rw [hu] at hty; cases hty
theorem args_all {H : Type} {enc : TypeId × Value → H} {P : Program} {W : World} {b base : Nat} {sp : Nat → Bool} {held : Bool} {r : Reach} : ∀ {ts : List TypeId} {vs : List Value} {ds : List (DataW H)} {p : List MemPlace} {l : List Sh},
    W.noneFrozen p → DataW.TrodAll enc P W base sp held ts vs ds p → (∀ (j : Nat) t v,ts[j]? = some t → vs[j]? = some v → Value.okWide P W r b t v) → shsOf P ts = some l →
    ∃ x : denL l,(∀ i,RepL (E0 fun b => b < W.heap.size) noU W (encL i l x) vs) ∧ okL l x
  | [],[],[],_,l,_,_,_,hs => by
    cases hs
    exact ⟨(),fun _ => RepL.nil,trivial⟩
  | t :: ts,v :: vs,d :: ds,p,l,hz,h,hok,hs => by
    obtain ⟨p1,q1,h1,h2,rfl⟩:=h
    simp only [shsOf] at hs
    split at hs <;> try (cases hs; done)
    rename_i s q hs1 hs2
    cases hs
    obtain ⟨x,hx,hxo⟩:=arg_rep (fun b off hm => hz b off (List.mem_append_left _ hm)) h1 (hok 0 t v rfl rfl) hs1
    obtain ⟨y,hy,hyo⟩:=args_all (fun b off hm => hz b off (List.mem_append_right _ hm)) h2 (fun j t v ht hv => hok (j + 1) t v (by simpa using ht) (by simpa using hv)) hs2
    exact ⟨(x,y),fun i => RepL.cons (hx i) (hy (i + 1)),hxo,hyo⟩
  | [],[],_ :: _,_,_,_,h,_,_ => h.elim
  | [],_ :: _,_,_,_,_,h,_,_ => h.elim
  | _ :: _,[],_,_,_,_,h,_,_ => h.elim
  | _ :: _,_ :: _,[],_,_,_,h,_,_ => h.elim
end Go.Sx
namespace Go.Sx
open Go.RowKit Go.ChangeShapes
theorem trodAll_stays {H : Type} {enc : TypeId × Value → H} {P : Program} (hl : laidOutB P = true) {W W' : World} (hb : Below W.heap.size W W') {sp : Nat → Bool} : ∀ {ts : List TypeId} {vs : List Value} {ds : List (DataW H)} {p : List MemPlace},
    (ts.all fun t => P.readableRec t && decide (t < P.types.size)) = true → DataW.TrodAll enc P W 0 (fun _ => true) true ts vs ds p → (∀ x ∈ p,x.block < W.heap.size ∧ sp x.block = true) → DataW.TrodAll enc P W' 0 sp true ts vs ds p
  | [],[],[],_,_,h,_ => h
  | t :: ts,v :: vs,d :: ds,_,hr,h,hp => by
    obtain ⟨p,q,h1,h2,rfl⟩:=h
    simp only [List.all_cons,Bool.and_eq_true,decide_eq_true_eq] at hr
    exact ⟨p,q,WideElems.Trod_stays hl hr.1.1 hr.1.2 h1 (fun x hx => hb.same (hp x (List.mem_append_left _ hx)).1) (fun x hx => (hp x (List.mem_append_left _ hx)).2),
      trodAll_stays hl hb hr.2 h2 (fun x hx => hp x (List.mem_append_right _ hx)),rfl⟩
  | [],[],_ :: _,_,_,h,_ => h.elim
  | [],_ :: _,_,_,_,h,_ => h.elim
  | _ :: _,[],_,_,_,h,_ => h.elim
  | _ :: _,_ :: _,[],_,_,h,_ => h.elim
theorem trodAll_len {H : Type} {enc : TypeId × Value → H} {P : Program} {W : World} {b : Nat} {sp : Nat → Bool} {hd : Bool} : ∀ {ts : List TypeId} {vs : List Value} {ds : List (DataW H)} {p : List MemPlace},DataW.TrodAll enc P W b sp hd ts vs ds p → ds.length = ts.length
  | [],[],[],_,_ => rfl
  | t :: ts,v :: vs,d :: ds,_,h => by obtain ⟨p,q,_,h2,_⟩:=h; simp [trodAll_len h2]
  | [],[],_ :: _,_,h => h.elim
  | [],_ :: _,_,_,h => h.elim
  | _ :: _,[],_,_,h => h.elim
  | _ :: _,_ :: _,[],_,h => h.elim
theorem law_lift {H : Type} {enc : TypeId × Value → H} {C : Checked} {os : Os} {f : FuncId} {fn : Func} {s : ChangeSpec} {conds : List PathCond} {l : List Sh} {tb : TypeId}
    (own : ownKnob C.prog.godebug = none) (started : os.Started) (noInit : C.prog.inits.idxOf? f = none) (hfn : C.prog.funcs[f]? = some fn) (hsv : s.vars = [])
    (hl : laidOutB C.prog = true) (hr : (fn.params.toList.all fun t => C.prog.readableRec t && decide (t < C.prog.types.size)) = true) (hrt : fn.resultTypes = #[tb]) (htb : C.prog.underlying tb = some .bool)
    (hs : shsOf C.prog fn.params.toList = some l)
    (hspec : ∀ ds : List (DataW H),ds.length = fn.params.toList.length → s.fn H ds = { results:=[.lit (.bool true)],args:=ds })
    (witness : ∃ (w : World) (tape : Tape) (i : Input),w.os = os ∧ (w.forCall tape i).Shaped C.prog ∧ i.vars = [] ∧ Input.okWide C.prog (w.forCall tape i) .any w.heap.size f i ∧
      s.pre6 enc C.prog fn conds false (w.forCall tape i).memory i.args ∧ ({} : Assume).holds C.prog (lone (Frame.enter C.prog f i.args .normal) [] (w.forCall tape i)))
    (ok : ∀ x : denL l,okL l x → FnOk C.prog f (encL 0 l x) (.bool true)) :
    ReturnsInHanded {} C os f .any (s.pre6 enc C.prog fn conds false) (s.post enc C.prog fn false true false false):=by
  refine returnsInHanded_of_change own started noInit hfn witness ?_
  intro W base args ds gs before hval hW _ _
  have hW':=hW
  obtain ⟨p,q,hA,hV,rfl,hz,_⟩:=hW
  have hlt : ∀ x ∈ p ++ q,x.block < W.heap.size:=fun x hx => hW'.lt x hx
  rw [hsv] at hV
  obtain ⟨rfl,rfl⟩:=trodVars_none hV
  have hval' : ∀ (j : Nat) t v,fn.params.toList[j]? = some t → args.toList[j]? = some v → Value.okWide C.prog W .any base t v:=fun j t v h1 h2 => hval j t v (by simpa using h1) (by simpa using h2)
  obtain ⟨x,hx,hxo⟩:=args_all (fun b off hm => hz b off (List.mem_append_left _ hm)) hA hval' hs
  refine (ok x hxo (fun b => b < W.heap.size) W args.toList (fun b hb => hb) (hx 0)).mono ?_
  rintro e W' ⟨_,v,rfl,hf,I',_,_,_,hv⟩
  unfold Rep at hv
  subst hv
  refine ⟨_,rfl,ds,[],p ++ [],[],p,[],hW',?_,?_,?_,hf.below.frame _,fun h => by cases h⟩
  · rw [List.append_nil,hspec ds (trodAll_len hA),hrt]
    exact trodAll_mk1 (shut_bool htb true)
  · rw [List.append_nil,hspec ds (trodAll_len hA)]
    exact trodAll_stays hl hf.below hr hA fun x hx => ⟨hlt x (by simp [hx]),by simpa using hlt x (by simp [hx])⟩
  · rw [List.append_nil,hspec ds (trodAll_len hA),hsv]
    rfl
end Go.Sx
namespace Go.Sx
open Go.RowKit
structure Hold {β : Type} (Q : β → Prop) (t : Tree β) : Prop where
  h : t.holds Q
theorem hold_of_eq {β : Type} {Q : β → Prop} {t t' : Tree β} (h : t = t') (h' : t'.holds Q) : Hold Q t:=⟨h ▸ h'⟩
theorem Tree.holds_ex {β : Type} {Q : β → Prop} : ∀ {t : Tree β},t.holds Q → ∃ b,Q b ∧ t.holds fun x => x = b
  | .leaf b,h => ⟨b,h,rfl⟩
  | .cond true t e,h => by
    obtain ⟨b,h1,h2⟩:=Tree.holds_ex (h.1 rfl)
    exact ⟨b,h1,fun _ => h2,fun h => by cases h⟩
  | .cond false t e,h => by
    obtain ⟨b,h1,h2⟩:=Tree.holds_ex (h.2 rfl)
    exact ⟨b,h1,(fun h => by cases h),fun _ => h2⟩
  | .need p t,h => by
    obtain ⟨b,h1,h2⟩:=Tree.holds_ex h.2
    exact ⟨b,h1,h.1,h2⟩
  | .fail _,h => h.elim
def AllK (P : Program) (ys : List YH) (n : Nat) (r0 : Option Nat) (u0 : Nat → Bool) (c : Code) : List (Nat × LRun) → Prop
  | [] => True
  | q :: l => LoopOk P ys n r0 u0 (loopC c q.1) q.2 ∧ AllK P ys n r0 u0 c l
theorem AllK.all {P : Program} {ys : List YH} {n : Nat} {r0 : Option Nat} {u0 : Nat → Bool} {c : Code} : ∀ {l : List (Nat × LRun)},AllK P ys n r0 u0 c l → ∀ q ∈ l,LoopOk P ys n r0 u0 (loopC c q.1) q.2
  | [],_,q,hq => by cases hq
  | p :: l,h,q,hq => by
    rcases List.mem_cons.1 hq with rfl | hq
    · exact h.1
    · exact AllK.all h.2 q hq
def runOf {α : Type} (n : Nat) (L : Lay) (to : L.den → α) (inv : α → Prop) (out : α → Tree (Exit × St)) : LRun:=loopRun n L (fun x => some (inv (to x))) (fun x => out (to x))
def bodyK {α δ ε : Type} (to : δ → α) : δ ⊕ ε → Tree (α ⊕ ε)
  | .inl y => .leaf (.inl (to y))
  | .inr p => .leaf (.inr p)
def loopBodyA {P : Program} (cx : List (GC P)) (lp : Nat → Option LRun) (ys : List YH) (n : Nat) (u0 : Nat → Bool) (body : Code) (L : Lay) (xl : Exit → St → Option Lay) {α : Type} (of : α → L.den) (to : L.den → α) (a : α) : Tree (α ⊕ (Exit × St)) :=
  (loopBody cx lp ys n u0 body L xl (of a)).bind (bodyK to)
def roundB {α : Type} (inv : α → Prop) (μ : α → Nat) (out : α → Tree (Exit × St)) (Q : Exit × St → Prop) (a : α) : α ⊕ (Exit × St) → Prop
  | .inl y => (inv y ∧ μ y < μ a) ∧ (out y).holds Q
  | .inr p => Q p
theorem loop_of {P : Program} (hm : P.follows .mixedOrders = true) {cx : List (GC P)} (lps : List (Nat × LRun)) {ys : List YH} {n : Nat} {r0 : Option Nat} {u0 : Nat → Bool} {c : Code} {L : Lay} {xl : Exit → St → Option Lay} {α : Type} {to : L.den → α} (of : α → L.den)
    {inv : α → Prop} (μ : α → Nat) {out : α → Tree (Exit × St)} (hof : ∀ x,of (to x) = x) (hc : isLoop c = true) (hL : L.ok u0 = true) (hxl : ∀ e S L',xl e S = some L' → L'.ok u0 = true) (hn : nodupB ((loopsOf 0 (inner c)).map (·.1)) = true)
    (hl : AllK P ys n r0 u0 (inner c) lps)
    (h : ∀ a,inv a → ∀ Q,(out a).holds Q → Hold (roundB inv μ out Q a) (loopBodyA cx (lpOf lps) ys n u0 (inner c) L xl of to a)) :
    LoopOk P ys n r0 u0 c (runOf n L to inv out):=by
  refine loop_at hm (cx:=cx) (lps:=lps) (xl:=xl) (fun x => inv (to x)) (fun x => μ (to x)) hc hL hxl hn hl.all (fun _ h => h) fun x hx Q hQ => ?_
  have:=Tree.holds_bind (h (to x) hx Q hQ).h
  rw [hof] at this
  refine Tree.holds_mono ?_ this
  rintro (y | p) hy
  · exact hy
  · exact hy
theorem LoopOk.congr {P : Program} {ys : List YH} {n : Nat} {r0 : Option Nat} {u0 : Nat → Bool} {c : Code} {L : Lay} {α : Type} {to : L.den → α} {inv : α → Prop} {out out' : α → Tree (Exit × St)} (h : LoopOk P ys n r0 u0 c (runOf n L to inv out)) (he : ∀ a,inv a → out a = out' a) : LoopOk P ys n r0 u0 c (runOf n L to inv out'):=by
  intro B hB hu hy S pre o hrun hnd Q hQ a w hs
  unfold runOf loopRun at hrun
  split at hrun <;> try (cases hrun; done)
  rename_i x hx
  cases hrun
  refine h B hB hu hy S (some (inv (to x))) (out (to x)) ?_ hnd Q ?_ a w hs
  · unfold runOf loopRun
    rw [hx]
  · rw [he _ hnd]; exact hQ
theorem fn_of {P : Program} (hm : P.follows .mixedOrders = true) {cx : List (GC P)} {lps : List (Nat × LRun)} {f : FuncId} {fn : Func} (hf : P.funcs[f]? = some fn) {args : List SV} {res : SV} (hn : nodupB ((loopsOf 0 (bodyOf fn)).map (·.1)) = true)
    {T : Tree SV} (ht : fnTree cx (lpOf lps) fn args = T) (hl : AllK P [] fn.ntmps none noU (bodyOf fn) lps) (h : T.holds fun s => s = res) : FnOk P f args res :=
  fn_at hm hf hn hl.all ht h
def PC.of {P : Program} {α : Type} (f : FuncId) (ps : List Sh) (to : denL ps → α) (of : α → denL ps) (hof : ∀ x,of (to x) = x) (pre : α → Option Prop) (out : α → SV) (ent : entB P f = true) (ok : ∀ a,ndP (pre a) → FnOk P f (encL 0 ps (of a)) (out a)) : PC P where
  f:=f
  ps:=ps
  pre:=fun x => pre (to x)
  out:=fun x => out (to x)
  ent:=ent
  ok:=fun x hx => by have:=ok (to x) hx; rwa [hof] at this
def MC.of {P : Program} {α : Type} (f : FuncId) (L : Lay) (to : L.den → α) (of : α → L.den) (hof : ∀ x,of (to x) = x) (pre : α → Option Prop) (out : α → MOut) (mok : L.mok = true) (ent : entB P f = true) (pok : ptrsOk L.ids L.shs = true) (ok : ∀ a,ndP (pre a) → MFnOk P f L (of a) (out a)) : MC P where
  f:=f
  L:=L
  pre:=fun x => pre (to x)
  out:=fun x => out (to x)
  mok:=mok
  ent:=ent
  pok:=pok
  ok:=fun x hx => by have:=ok (to x) hx; rwa [hof] at this
theorem m_of {P : Program} (hm : P.follows .mixedOrders = true) {cx : List (GC P)} {lps : List (Nat × LRun)} {f : FuncId} {fn : Func} (hf : P.funcs[f]? = some fn) {L : Lay} {own : Bool} {x : L.den} {o : MOut} (hok : L.mok = true) (hn : nodupB ((loopsOf 0 (bodyOf fn)).map (·.1)) = true)
    {T : Tree MOut} (ht : mTree cx (lpOf lps) fn L own x = T) (hl : AllK P [] fn.ntmps none (L.st noU x).used (bodyOf fn) lps) (h : T.holds fun s => s = o) : MFnOk P f L x o :=
  m_ok hm hf hok hn hl.all ht h
mutual
def LeS : SV → SV → Prop
  | .nils,.sl _ l => l = []
  | .nils,.osl _ l => l = []
  | .sl t l,.osl t' l' => l ≠ [] ∧ SV.osl t l = SV.osl t' l'
  | .osl t l,.sl t' l' => SV.sl t l = SV.sl t' l'
  | .nsl t l _,.sl t' l' => SV.sl t l = SV.sl t' l'
  | .agg cs,.agg ds => LeL cs ds
  | .tup cs,.tup ds => LeL cs ds
  | s,r => s = r
def LeL : List SV → List SV → Prop
  | [],[] => True
  | c :: cs,d :: ds => LeS c d ∧ LeL cs ds
  | _,_ => False
end
mutual
theorem LeS.rep {E : En} {U : Nat → Bool} {w : World} : ∀ (s r : SV) (v : Value),LeS s r → Rep E U w s v → Rep E U w r v
  | .agg cs,r,v,h,hr => by
    cases r with
    | agg ds =>
      unfold LeS at h
      unfold Rep at hr ⊢
      obtain ⟨vs,e,hl⟩:=hr
      exact ⟨vs,e,LeL.rep cs ds vs h hl⟩
    | _ => unfold LeS at h; rw [← h]; exact hr
  | .tup cs,r,v,h,hr => by
    cases r with
    | tup ds =>
      unfold LeS at h
      unfold Rep at hr ⊢
      obtain ⟨vs,e,hl⟩:=hr
      exact ⟨vs,e,LeL.rep cs ds vs h hl⟩
    | _ => unfold LeS at h; rw [← h]; exact hr
  | .nils,r,v,h,hr => by
    cases r with
    | sl t l =>
      unfold LeS at h
      subst h
      unfold Rep at hr ⊢
      subst hr
      exact ⟨_,rfl,none,0,rfl,Nat.le_refl _,.inl rfl⟩
    | osl t l =>
      unfold LeS at h
      subst h
      unfold Rep at hr ⊢
      subst hr
      exact ⟨⟨_,rfl,none,0,rfl,Nat.le_refl _,.inl rfl⟩,fun _ => rfl⟩
    | _ => unfold LeS at h; rw [← h]; exact hr
  | .any,r,v,h,hr => by unfold LeS at h; rw [← h]; exact hr
  | .int ..,r,v,h,hr => by unfold LeS at h; rw [← h]; exact hr
  | .bool ..,r,v,h,hr => by unfold LeS at h; rw [← h]; exact hr
  | .str ..,r,v,h,hr => by unfold LeS at h; rw [← h]; exact hr
  | .sl t l,r,v,h,hr => by
    cases r with
    | osl t' l' =>
      unfold LeS at h
      obtain ⟨h1,h2⟩:=h
      cases h2
      unfold Rep at hr ⊢
      exact ⟨hr,fun e => absurd e h1⟩
    | _ => unfold LeS at h; rw [← h]; exact hr
  | .osl t l,r,v,h,hr => by
    cases r with
    | sl t' l' =>
      unfold LeS at h
      cases h
      unfold Rep at hr ⊢
      exact hr.1
    | _ => unfold LeS at h; rw [← h]; exact hr
  | .nsl t l _,r,v,h,hr => by
    cases r with
    | sl t' l' =>
      unfold LeS at h
      cases h
      unfold Rep at hr ⊢
      exact hr.1
    | _ => unfold LeS at h; rw [← h]; exact hr
  | .adr ..,r,v,h,hr => by unfold LeS at h; rw [← h]; exact hr
  | .ptr ..,r,v,h,hr => by unfold LeS at h; rw [← h]; exact hr
  | .own ..,r,v,h,hr => by unfold LeS at h; rw [← h]; exact hr
  | .oel ..,r,v,h,hr => by unfold LeS at h; rw [← h]; exact hr
  | .sub ..,r,v,h,hr => by unfold LeS at h; rw [← h]; exact hr
  | .bsl ..,r,v,h,hr => by unfold LeS at h; rw [← h]; exact hr
  | .nilp,r,v,h,hr => by unfold LeS at h; rw [← h]; exact hr
  | .fn ..,r,v,h,hr => by unfold LeS at h; rw [← h]; exact hr
  | .yld ..,r,v,h,hr => by unfold LeS at h; rw [← h]; exact hr
  | .mp ..,r,v,h,hr => by unfold LeS at h; rw [← h]; exact hr
  | .arr ..,r,v,h,hr => by unfold LeS at h; rw [← h]; exact hr
  | .big ..,r,v,h,hr => by unfold LeS at h; rw [← h]; exact hr
theorem LeL.rep {E : En} {U : Nat → Bool} {w : World} : ∀ (s r : List SV) (v : List Value),LeL s r → RepL E U w s v → RepL E U w r v
  | [],[],v,_,hr => hr
  | c :: cs,d :: ds,v,h,hr => by
    unfold LeL at h
    unfold RepL at hr ⊢
    obtain ⟨u,q,e,h1,h2⟩:=hr
    exact ⟨u,q,e,LeS.rep c d u h.1 h1,LeL.rep cs ds q h.2 h2⟩
  | [],_ :: _,_,h,_ => by unfold LeL at h; exact h.elim
  | _ :: _,[],_,h,_ => by unfold LeL at h; exact h.elim
end
theorem FnOk.le {P : Program} {f : FuncId} {args : List SV} {s r : SV} (h : FnOk P f args s) (hd : isData r = true) (hl : LeS s r) : FnOk P f args r:=by
  intro I w vals hI hr
  refine (h I w vals hI hr).mono ?_
  rintro e w' ⟨_,v,he,hf,I',h1,h2,h3,hrep⟩
  exact ⟨hd,v,he,hf,I',h1,h2,h3,LeS.rep s r v hl hrep⟩
theorem fn_le {P : Program} (hm : P.follows .mixedOrders = true) {cx : List (GC P)} {lps : List (Nat × LRun)} {f : FuncId} {fn : Func} (hf : P.funcs[f]? = some fn) {args : List SV} {res : SV} (hn : nodupB ((loopsOf 0 (bodyOf fn)).map (·.1)) = true)
    {T : Tree SV} (ht : fnTree cx (lpOf lps) fn args = T) (hl : AllK P [] fn.ntmps none noU (bodyOf fn) lps) (hd : isData res = true) (h : T.holds fun s => LeS s res) : FnOk P f args res:=by
  obtain ⟨s,h1,h2⟩:=Tree.holds_ex h
  exact (fn_at hm hf hn hl.all ht h2).le hd h1
end Go.Sx
namespace Go.Sx
open Go.RowKit
def Ty.flat : Ty → Bool
  | .sl _ => false
  | .pair a b => a.flat && b.flat
  | .arr e _ => e.flat
  | _ => true
theorem DRep.flat {I I' : Nat → Prop} {w w' : World} : ∀ (t : Ty) (d : t.den) (vs : List Value),t.flat = true → DRep I w t d vs → DRep I' w' t d vs
  | .int _,_,_,_,h => h
  | .bool,_,_,_,h => h
  | .str,_,_,_,h => h
  | .unit,_,_,_,h => h
  | .pair a b,d,_,hf,h => by
    simp only [Ty.flat,Bool.and_eq_true] at hf
    obtain ⟨x,y,e,h1,h2⟩:=h
    exact ⟨x,y,e,DRep.flat a _ _ hf.1 h1,DRep.flat b _ _ hf.2 h2⟩
  | .arr e n,l,_,hf,h => ⟨h.1,FlatR.mono (fun d xs hd => DRep.flat e d xs hf hd) h.2⟩
theorem Flat.flat {I I' : Nat → Prop} {w w' : World} {t : Ty} (ht : t.flat = true) : ∀ (l : List t.den) (xs : List Value),Flat I w t l xs → Flat I' w' t l xs
  | [],_,h => h
  | d :: l,_,h => by
    obtain ⟨a,b,e,h1,h2⟩:=h
    exact ⟨a,b,e,DRep.flat t d a ht h1,Flat.flat ht l b h2⟩
def FreshOk (P : Program) (f : FuncId) (args : List SV) (res : SV) : Prop :=
  ∀ (I : Nat → Prop) (w : World) (vals : List Value),(∀ b,I b → b < w.heap.size) → RepL (E0 I) noU w args vals →
    Calls P f vals.toArray w fun e w' => isData res = true ∧ ∃ v,e = .returned v ∧ Frm w (fun _ => False) w' ∧ ∃ I',(∀ b,I' b → w.heap.size ≤ b) ∧ (∀ b,I' b → b < w'.heap.size) ∧ Rep (E0 I') noU w' res v
def frOf (H : Hp) : SV → Option SV
  | .own k => match H k with
    | some (.row _ t l) => if t.flat then some (.sl t l) else none
    | _ => none
  | s => if isFlat s && isData s then some s else none
def frOfL (H : Hp) : List SV → Option (List SV)
  | [] => some []
  | s :: l => match frOf H s,frOfL H l with
    | some r,some q => some (r :: q)
    | _,_ => none
theorem frOf_ok {w0 : World} {E : En} {U : Nat → Bool} {H : Hp} {w : World} (hs : HSat w0 (fun _ => False) E U H w) {s r : SV} {v : Value} (hr : frOf H s = some r) (hrep : Rep E U w s v) :
    isData r = true ∧ Rep (E0 fun b => Mof E H b) noU w r v:=by
  unfold frOf at hr
  split at hr
  · rename_i k
    split at hr <;> try (cases hr; done)
    rename_i e0 t l hrow
    split at hr <;> try (cases hr; done)
    rename_i hfl
    cases hr
    obtain ⟨hU,xs,hown,hflat,hsv⟩:=hs.ob k _ hrow
    unfold Rep at hrep
    rw [hrep.2.1]
    refine ⟨rfl,?_⟩
    by_cases hn : E.sv k = .slice none 0 0
    · rw [hn] at hown ⊢
      unfold Rep
      refine ⟨_,rfl,ownR_cells hown (Flat.flat hfl _ _ hflat) fun b hb => ?_⟩
      cases hb
    · have hlive : Live E H k:=⟨_,hrow,hn⟩
      rcases hsv with h | ⟨cap,h⟩
      · exact absurd h hn
      unfold Rep
      refine ⟨_,rfl,ownR_cells hown (Flat.flat hfl _ _ hflat) fun b hb => ?_⟩
      rw [h] at hb
      cases hb
      exact ⟨k,hlive,rfl⟩
  · split at hr <;> try (cases hr; done)
    rename_i hf
    rw [Bool.and_eq_true] at hf
    cases hr
    exact ⟨hf.2,flat_rep _ _ hf.1 hrep⟩
theorem frOfL_ok {w0 : World} {E : En} {U : Nat → Bool} {H : Hp} {w : World} (hs : HSat w0 (fun _ => False) E U H w) : ∀ {ss rs : List SV} {vs : List Value},frOfL H ss = some rs → RepL E U w ss vs →
    isDataL rs = true ∧ RepL (E0 fun b => Mof E H b) noU w rs vs
  | [],rs,vs,h,hr => by
    cases h
    unfold RepL at hr
    subst hr
    exact ⟨rfl,RepL.nil⟩
  | s :: l,rs,vs,h,hr => by
    simp only [frOfL] at h
    split at h <;> try (cases h; done)
    rename_i r q hr1 hq
    cases h
    unfold RepL at hr
    obtain ⟨v,u,rfl,h1,h2⟩:=hr
    obtain ⟨a1,a2⟩:=frOf_ok hs hr1 h1
    obtain ⟨b1,b2⟩:=frOfL_ok hs hq h2
    exact ⟨by unfold isDataL; rw [a1,b1]; rfl,RepL.cons a2 b2⟩
theorem frRes_ok {w0 : World} {E : En} {U : Nat → Bool} {H : Hp} {w : World} (hs : HSat w0 (fun _ => False) E U H w) {ss rs : List SV} {v : Value} (h : frOfL H ss = some rs) (hr : Rep E U w (resSV ss) v) :
    isData (resSV rs) = true ∧ Rep (E0 fun b => Mof E H b) noU w (resSV rs) v:=by
  match ss,h,hr with
  | [],h,hr =>
    cases h
    unfold resSV at hr ⊢
    unfold Rep at hr ⊢
    obtain ⟨vs,e,hl⟩:=hr
    exact ⟨rfl,vs,e,(frOfL_ok hs (ss:=[]) rfl hl).2⟩
  | [s],h,hr =>
    simp only [frOfL] at h
    split at h <;> try (cases h; done)
    rename_i r q hr1 hq
    cases hq
    cases h
    exact frOf_ok hs hr1 hr
  | s1 :: s2 :: l,h,hr =>
    have h0:=h
    simp only [frOfL] at h
    split at h <;> try (cases h; done)
    rename_i r q hr1 hq
    split at hq <;> try (cases hq; done)
    cases hq
    cases h
    unfold resSV at hr ⊢
    unfold Rep at hr ⊢
    obtain ⟨vs,e,hl⟩:=hr
    obtain ⟨b1,b2⟩:=frOfL_ok hs h0 hl
    exact ⟨b1,vs,e,b2⟩
def frLeaf (P : Program) (fn : Func) (n : Nat) (e : Exit) (S : St) : Tree SV :=
  let fin:=match resL P n S fn.results.toList with
    | some ss => match frOfL S.heap ss with
      | some rs => .leaf (resSV rs)
      | none => .fail 10
    | none => .fail 11
  match e with
  | .normal => fin
  | .ret => fin
  | _ => .fail 12
def frTree {P : Program} (cx : List (GC P)) (lp : Nat → Option LRun) (fn : Func) (args : List SV) : Tree SV :=
  match fn.body with
  | some c => if Nat.ble args.length fn.ntmps then execC cx lp [] fn.ntmps 0 c (argSt args) (fun _ => none) (fun e S _ => frLeaf P fn fn.ntmps e S) else .fail 13
  | none => .fail 14
theorem fr_ok0 {P : Program} (hm : P.follows .mixedOrders = true) {cx : List (GC P)} {lp : Nat → Option LRun} {f : FuncId} {fn : Func} (hf : P.funcs[f]? = some fn) {args : List SV} {res : SV}
    (hl : ∀ c,fn.body = some c → LoopsOk P [] fn.ntmps none noU lp 0 c) (ht : (frTree cx lp fn args).holds fun s => s = res) : FreshOk P f args res:=by
  intro I w vals hI hr
  unfold frTree at ht
  split at ht
  · rename_i c hc
    split at ht
    · rename_i hn
      have hn':=Nat.le_of_ble_eq_true hn
      have hvl:=hr.length
      let B : Bs:=⟨w,fun _ => False,E0 I,noU,fn.ntmps,[]⟩
      have hsat : Sat B (argSt args) { tmps:=vals.toArray ++ Array.replicate (fn.ntmps - vals.toArray.size) undef,defers:=[] } w:=by
        refine ⟨E0 I,⟨by simp [B]; omega,Marked.refl _ _ _ _,fun t ht => ?_,HSat.start hI,En.Le.refl _ _ _,fun b hb => .inl hb⟩⟩
        show Rep (E0 I) noU w (args.getD t (.tup [])) _
        rcases Nat.lt_or_ge t args.length with h | h
        · obtain ⟨v,hv,hrv⟩:=hr.get (i:=t) (c:=args[t]) (List.getElem?_eq_getElem h)
          rw [show args.getD t (.tup []) = args[t] from by simp [List.getD,List.getElem?_eq_getElem h]]
          have hlt : t < vals.length:=by omega
          have : (vals.toArray ++ Array.replicate (fn.ntmps - vals.toArray.size) undef).getD t undef = v:=by
            rw [List.getElem?_eq_getElem hlt] at hv
            have h1 : (vals.toArray ++ Array.replicate (fn.ntmps - vals.toArray.size) undef)[t]? = some v:=by
              rw [Array.getElem?_append_left (by simpa using hlt)]
              simpa [List.getElem?_eq_getElem hlt] using hv
            simp only [Array.getD_eq_getD_getElem?,h1,Option.getD_some]
          rw [this]; exact hrv
        · rw [show args.getD t (.tup []) = .tup [] from by simp [List.getD,List.getElem?_eq_none h]]
          have : (vals.toArray ++ Array.replicate (fn.ntmps - vals.toArray.size) undef).getD t undef = undef:=by
            have h1 : (vals.toArray ++ Array.replicate (fn.ntmps - vals.toArray.size) undef)[t]? = (Array.replicate (fn.ntmps - vals.toArray.size) undef)[t - vals.length]?:=by
              rw [Array.getElem?_append_right (by simpa using by omega)]
              simp
            simp only [Array.getD_eq_getD_getElem?,h1,Array.getElem?_replicate]
            split <;> rfl
          rw [this]
          exact undef_rep _ _ _
      refine (callsIn_wide (n:=0)).1 (callsIn_of_wp_marks (F:=FR none) hf hc trivial ?_ rfl)
      refine execC_ok hm (r0:=none) (u0:=noU) (B:=B) (fun k hk => by cases hk) (fun h hh => by cases hh) c 0 (argSt args) _ _ _ (hl c hc) (kInv_none _ _) ht ?_ _ w hsat
      intro e S' K' a' w' _ hs' hk
      have fin : (match resL P fn.ntmps S' fn.results.toList with
          | some ss => match frOfL S'.heap ss with
            | some rs => .leaf (resSV rs)
            | none => .fail 10
          | none => .fail 11 : Tree SV).holds (fun s => s = res) → LeavesInM (FR none) 0 P fn a'.tmps (fun e w' => isData res = true ∧ ∃ v,e = .returned v ∧ Frm w (fun _ => False) w' ∧ ∃ I',(∀ b,I' b → w.heap.size ≤ b) ∧ (∀ b,I' b → b < w'.heap.size) ∧ Rep (E0 I') noU w' res v) a'.defers .returning w':=by
        intro hk
        obtain ⟨E,hsE⟩:=hs'
        obtain ⟨ds,hds,hnd,hd⟩:=hsE.defers
        replace hds : a'.defers = ds.map mark:=by rw [hds]; exact List.append_nil _
        have hsE:=SatE.shut (B:=B) ds hnd w' ⟨hsE.size,Marked.refl _ _ _ _,hsE.tmps,hsE.heap,hsE.le,hsE.fresh⟩ hd
        rw [hds]
        refine leaves_marks ds hnd w' (fun d hm => (hd d hm).2.1) ?_
        split at hk <;> try (exact hk.elim)
        rename_i ss hss
        split at hk <;> try (exact hk.elim)
        rename_i rs hr
        have hres : resSV rs = res:=hk
        subst hres
        obtain ⟨v,hrun,hrep⟩:=results_ok (fn:=fn) hsE hss
        obtain ⟨g1,g2⟩:=frRes_ok hsE.heap hr hrep
        refine ⟨v,hrun,g1,v,rfl,hsE.heap.frame,fun b => Mof E S'.heap b,?_,?_,g2⟩
        · rintro b ⟨k,hk,rfl⟩
          rcases hsE.heap.mine k hk with h | h
          · exact h.elim
          · exact h
        · rintro b ⟨k,hk,rfl⟩
          exact hsE.heap.liveLt hk
      cases e with
      | normal => exact fin hk
      | ret => exact fin hk
      | exit id => exact hk.elim
      | goto l => exact hk.elim
      | panic ch => exact hk.elim
      | outgrown => exact hk.elim
    · exact ht.elim
  · exact ht.elim
structure FC (P : Program) where
  f : FuncId
  ps : List Sh
  pre : denL ps → Option Prop
  out : denL ps → SV
  ent : entB P f = true
  ok : ∀ x,ndP (pre x) → FreshOk P f (encL 0 ps x) (out x)
def FC.con {P : Program} (c : FC P) : Con:=fun args H _ => match decL c.ps (vwL H args) with
  | some x => some { need:=c.pre x,res:=c.out x }
  | none => none
theorem FC.conOk {P : Program} (c : FC P) : ConOk P c.f c.con:=by
  intro args H base eff he E U w vals hs hr _ hnd
  simp only [FC.con] at he
  split at he <;> try (cases he; done)
  rename_i x hx
  cases he
  obtain ⟨E1,hle1,hs1,hfr⟩:=hs.freezeAll (idsL args) E H
  have hv:=vwL_rep (H:=H) hs1 args vals (fun k hk => by simp [hk]) (RepL.mono hle1 _ _ hr)
  have hargs:=decL_ok (E:=E1) (E':=E0 E1.I) (U':=noU) rfl 0 hx hv
  refine (c.ok x hnd E1.I w vals hs1.lt hargs).mono ?_
  rintro e w' ⟨hdat,v,rfl,hf,I',hI1,hI2,hrep⟩
  refine ⟨v,rfl,?_⟩
  simp only [apU_nil,apH_nil]
  obtain ⟨h1,h2⟩:=hs.still hf (I':=fun b => E.I b ∨ I' b) (fun _ h => .inl h) (fun b h => h.imp_right (hI1 b)) (fun b hb => hb.elim (fun h => Nat.lt_of_lt_of_le (hs.lt b h) hf.size) (hI2 b))
  refine ⟨_,h1,h2,fun b hb => hb.imp_right fun h => .inr (hI1 b h),?_⟩
  have hd:=data_rep (E:=E0 I') (E':={ E with I:=I' }) (U':=U) rfl _ _ hdat hrep
  exact Rep.mono (E:={ E with I:=I' }) (E':={ E with I:=fun b => E.I b ∨ I' b }) (U:=U) (w:=w') ⟨fun _ h => h,fun _ _ => rfl,fun _ _ => rfl,fun b h => Or.inr (a:=E.I b) h,fun _ _ => rfl,fun _ _ => rfl⟩ _ _ hd
def FC.gc {P : Program} (c : FC P) : GC P:={ f:=c.f,con:=c.con,ent:=c.ent,ok:=c.conOk }
def FC.of {P : Program} {α : Type} (f : FuncId) (ps : List Sh) (to : denL ps → α) (of : α → denL ps) (hof : ∀ x,of (to x) = x) (pre : α → Option Prop) (out : α → SV) (ent : entB P f = true) (ok : ∀ a,ndP (pre a) → FreshOk P f (encL 0 ps (of a)) (out a)) : FC P where
  f:=f
  ps:=ps
  pre:=fun x => pre (to x)
  out:=fun x => out (to x)
  ent:=ent
  ok:=fun x hx => by have:=ok (to x) hx; rwa [hof] at this
theorem fr_of {P : Program} (hm : P.follows .mixedOrders = true) {cx : List (GC P)} {lps : List (Nat × LRun)} {f : FuncId} {fn : Func} (hf : P.funcs[f]? = some fn) {args : List SV} {res : SV} (hn : nodupB ((loopsOf 0 (bodyOf fn)).map (·.1)) = true)
    {T : Tree SV} (ht : frTree cx (lpOf lps) fn args = T) (hl : AllK P [] fn.ntmps none noU (bodyOf fn) lps) (h : T.holds fun s => s = res) : FreshOk P f args res:=by
  subst ht
  refine fr_ok0 hm hf (fun c hc => ?_) h
  have e : bodyOf fn = c:=by unfold bodyOf; rw [hc]
  have hl:=hl.all
  rw [e] at hn hl
  exact loopsOk_lp hn hl
theorem MFnOk.le {P : Program} {f : FuncId} {L : Lay} {x : L.den} {s r : SV} {bx : List (List SV)} {ns : List Ob} (h : MFnOk P f L x ⟨s,bx,ns⟩) (hl : LeS s r) : MFnOk P f L x ⟨r,bx,ns⟩:=by
  intro E w vals hs hr
  refine (h E w vals hs hr).mono ?_
  rintro e w' ⟨v,rfl,E',U',h1,h2,h3,h4⟩
  exact ⟨v,rfl,E',U',h1,h2,h3,LeS.rep _ _ _ hl h4⟩
end Go.Sx
namespace Go.Sx
open Go
set_option linter.unusedVariables false
def encA : Nat → Nat → (l : List Sh) → denL l → List SV
  | n + 1,i,.agg t :: r,d => .adr t d.1 :: encA n (i + 1) r d.2
  | _,i,l,d => encL i l d
def decR (H : Hp) : Nat → (l : List Sh) → List SV → Option (denL l)
  | n + 1,.agg t :: r,v :: q => if Nat.ble 1 t.size then match rdAt H t.size v with
    | some (none,c) => match t.ofCells (vwL H c) with
      | some (d,[]) => match decR H n r q with
        | some x => some (d,x)
        | none => none
      | _ => none
    | _ => none
    else none
  | n + 1,_,_ => none
  | 0,l,q => decL l (vwL H q)
def idsR (H : Hp) : Nat → List Sh → List SV → List Nat
  | n + 1,.agg t :: r,v :: q => (match rdAt H t.size v with
    | some (_,c) => idsL c
    | none => []) ++ idsR H n r q
  | n + 1,_,_ => []
  | 0,l,q => idsL q
theorem E0_le {I1 I2 : Nat → Prop} {w : World} (h : ∀ b,I1 b → I2 b) : En.Le noU noU (E0 I1) (E0 I2) w w:=⟨fun _ h => h,fun _ _ => rfl,fun _ _ => rfl,h,fun _ _ => rfl,fun _ _ => rfl⟩
theorem decR_ok {w0 : World} {M : Nat → Prop} {E E1 : En} {U : Nat → Bool} {H H1 : Hp} {w : World} (hs : HSat w0 M E U H w) (hs1 : HSat w0 M E1 U H1 w) (hle : En.Le U U E E1 w w) :
    ∀ (n i : Nat) (l : List Sh) (args : List SV) (vals : List Value) (x : denL l),(∀ k ∈ idsR H n l args,H1 k = frzOb (H k)) → decR H n l args = some x → RepL E U w args vals →
      ∃ B : Nat → Prop,(∀ b,B b → b < w.heap.size) ∧ RepL (E0 fun b => E1.I b ∨ B b) noU w (encA n i l x) vals
  | 0,i,l,q,vals,x,hk,h,hr => by
    unfold decR at h
    have hv:=vwL_rep (H:=H) hs1 q vals (fun k hk' => hk k (by unfold idsR; exact hk')) (RepL.mono hle _ _ hr)
    have:=decL_ok (E:=E1) (E':=E0 E1.I) (U':=noU) rfl i h hv
    refine ⟨fun _ => False,fun b hb => hb.elim,?_⟩
    have h2:=RepL.mono (E0_le (I2:=fun b => E1.I b ∨ False) (w:=w) fun b hb => .inl hb) _ _ this
    cases l with
    | nil => exact h2
    | cons s r => cases s <;> exact h2
  | n + 1,i,.agg t :: r,v :: q,vals,x,hk,h,hr => by
    unfold decR at h
    split at h <;> try (cases h; done)
    rename_i hsz
    have hsz:=Nat.le_of_ble_eq_true hsz
    split at h <;> try (cases h; done)
    rename_i c hc
    split at h <;> try (cases h; done)
    rename_i d hd
    split at h <;> try (cases h; done)
    rename_i x' hx
    cases h
    unfold RepL at hr
    obtain ⟨u,vr,e,hv,hu⟩:=hr
    subst e
    obtain ⟨b,o,vs,rfl,hrow,hcell⟩:=rdAt_ok hs hv hc trivial
    have hk1 : ∀ k ∈ idsL c,H1 k = frzOb (H k):=fun k hk' => hk k (by unfold idsR; rw [hc]; exact List.mem_append_left _ hk')
    have hk2 : ∀ k ∈ idsR H n r q,H1 k = frzOb (H k):=fun k hk' => hk k (by unfold idsR; exact List.mem_append_right _ hk')
    have hcv:=vwL_rep (H:=H) hs1 c vs hk1 (RepL.mono hle _ _ hcell)
    obtain ⟨y,z,e1,hd1,hz⟩:=Ty.ofCells_rep t _ _ _ _ hd hcv
    unfold RepL at hz
    subst hz
    rw [List.append_nil] at e1
    subst e1
    obtain ⟨B,hB,hrest⟩:=decR_ok hs hs1 hle n (i + 1) r q vr x' hk2 hx hu
    have hlt : b < w.heap.size:=by
      have hlen:=DRep.length t d vs hd1
      obtain ⟨v0,hv0⟩ : ∃ v0,vs[0]? = some v0:=⟨vs[0]'(by omega),List.getElem?_eq_getElem (by omega)⟩
      have:=(hrow 0 v0 hv0).1
      unfold World.cell? at this
      cases hh : w.heap[b]? with
      | none => simp [hh] at this
      | some ob => exact (Array.getElem?_eq_some_iff.1 hh).1
    refine ⟨fun b' => b' = b ∨ B b',fun b' hb' => hb'.elim (fun e => e ▸ hlt) (hB b'),?_⟩
    unfold encA
    refine RepL.cons ?_ (RepL.mono (E0_le fun b' hb' => hb'.elim .inl fun h => .inr (.inr h)) _ _ hrest)
    unfold Rep
    exact ⟨b,o,vs,rfl,.inr (.inl rfl),hrow,DRep.mono (fun _ h => .inl h) (fun _ _ => rfl) _ _ _ hd1⟩
  | n + 1,i,.agg t :: r,[],_,_,_,h,_ => by cases h
  | n + 1,i,[],_,_,_,_,h,_ => by simp [decR] at h
  | n + 1,i,.val _ :: _,_,_,_,_,h,_ => by simp [decR] at h
  | n + 1,i,.ptr .. :: _,_,_,_,_,h,_ => by simp [decR] at h
  | n + 1,i,.row .. :: _,_,_,_,_,h,_ => by simp [decR] at h
  | n + 1,i,.fn .. :: _,_,_,_,_,h,_ => by simp [decR] at h
  | n + 1,i,.clo .. :: _,_,_,_,_,h,_ => by simp [decR] at h
  | n + 1,i,.yld .. :: _,_,_,_,_,h,_ => by simp [decR] at h
  | n + 1,i,.any :: _,_,_,_,_,h,_ => by simp [decR] at h
  | n + 1,i,.oval _ :: _,_,_,_,_,h,_ => by simp [decR] at h
  | n + 1,i,.adr _ :: _,_,_,_,_,h,_ => by simp [decR] at h
structure RC (P : Program) where
  f : FuncId
  n : Nat
  ps : List Sh
  pre : denL ps → Option Prop
  out : denL ps → SV
  ent : entB P f = true
  ok : ∀ x,ndP (pre x) → FnOk P f (encA n 0 ps x) (out x)
def RC.con {P : Program} (c : RC P) : Con:=fun args H _ => match decR H c.n c.ps args with
  | some x => bif isFlat (c.out x) then some { need:=c.pre x,res:=c.out x } else none
  | none => none
theorem RC.conOk {P : Program} (c : RC P) : ConOk P c.f c.con:=by
  intro args H base eff he E U w vals hs hr _ hnd
  simp only [RC.con] at he
  split at he <;> try (cases he; done)
  rename_i x hx
  cases hflat : isFlat (c.out x) with
  | false => rw [hflat] at he; cases he
  | true =>
    rw [hflat] at he
    cases he
    obtain ⟨E1,hle1,hs1,hfr⟩:=hs.freezeAll (idsR H c.n c.ps args) E H
    obtain ⟨B,hB,hargs⟩:=decR_ok hs hs1 hle1 c.n 0 c.ps args vals x (fun k hk => by simp [hk]) hx hr
    refine (c.ok x hnd (fun b => E1.I b ∨ B b) w vals (fun b hb => hb.elim (hs1.lt b) (hB b)) hargs).mono ?_
    rintro e w' ⟨hdat,v,rfl,hf,I',hI1,hI2,hI3,hrep⟩
    refine ⟨v,rfl,?_⟩
    simp only [apU_nil,apH_nil]
    obtain ⟨h1,h2⟩:=hs.still hf (I':=E.I) (fun _ h => h) (fun _ h => .inl h) (fun b hb => Nat.lt_of_lt_of_le (hs.lt b hb) hf.size)
    exact ⟨E,h1,h2,FreshI.refl rfl H w,flat_rep _ _ hflat hrep⟩
def RC.gc {P : Program} (c : RC P) : GC P:={ f:=c.f,con:=c.con,ent:=c.ent,ok:=c.conOk }
def RC.of {P : Program} {α : Type} (f : FuncId) (n : Nat) (ps : List Sh) (to : denL ps → α) (of : α → denL ps) (hof : ∀ x,of (to x) = x) (pre : α → Option Prop) (out : α → SV) (ent : entB P f = true) (ok : ∀ a,ndP (pre a) → FnOk P f (encA n 0 ps (of a)) (out a)) : RC P where
  f:=f
  n:=n
  ps:=ps
  pre:=fun x => pre (to x)
  out:=fun x => out (to x)
  ent:=ent
  ok:=fun x hx => by have:=ok (to x) hx; rwa [hof] at this
end Go.Sx
set_option linter.unusedVariables false
set_option linter.unusedSimpArgs false
namespace Go.Sx
open Go
mutual
def NilS : SV → SV → Prop
  | .nils,.own k => k = newBase
  | .agg cs,.agg ds => NilL cs ds
  | .tup cs,.tup ds => NilL cs ds
  | s,r => s = r ∧ isData s = true
def NilL : List SV → List SV → Prop
  | [],[] => True
  | c :: cs,d :: ds => NilS c d ∧ NilL cs ds
  | _,_ => False
end
mutual
theorem NilS.rep {E E' : En} {U U' : Nat → Bool} {w : World} (hI : E'.I = E.I) (hu : U' newBase = true) (hv : E'.sv newBase = .slice none 0 0) : ∀ (s r : SV) (v : Value),NilS s r → Rep E U w s v → Rep E' U' w r v
  | .agg cs,r,v,h,hr => by
    cases r with
    | agg ds =>
      unfold NilS at h
      unfold Rep at hr ⊢
      obtain ⟨vs,e,hl⟩:=hr
      exact ⟨vs,e,NilL.rep hI hu hv cs ds vs h hl⟩
    | _ => unfold NilS at h; rw [← h.1]; exact data_rep hI _ _ h.2 hr
  | .tup cs,r,v,h,hr => by
    cases r with
    | tup ds =>
      unfold NilS at h
      unfold Rep at hr ⊢
      obtain ⟨vs,e,hl⟩:=hr
      exact ⟨vs,e,NilL.rep hI hu hv cs ds vs h hl⟩
    | _ => unfold NilS at h; rw [← h.1]; exact data_rep hI _ _ h.2 hr
  | .nils,r,v,h,hr => by
    cases r with
    | own k =>
      unfold NilS at h
      subst h
      unfold Rep at hr ⊢
      subst hr
      exact ⟨hu,hv.symm,_,_,_,rfl⟩
    | _ => unfold NilS at h; rw [← h.1]; exact data_rep hI _ _ h.2 hr
  | .any,r,v,h,hr => by unfold NilS at h; rw [← h.1]; exact data_rep hI _ _ h.2 hr
  | .int ..,r,v,h,hr => by unfold NilS at h; rw [← h.1]; exact data_rep hI _ _ h.2 hr
  | .bool ..,r,v,h,hr => by unfold NilS at h; rw [← h.1]; exact data_rep hI _ _ h.2 hr
  | .str ..,r,v,h,hr => by unfold NilS at h; rw [← h.1]; exact data_rep hI _ _ h.2 hr
  | .sl ..,r,v,h,hr => by unfold NilS at h; rw [← h.1]; exact data_rep hI _ _ h.2 hr
  | .osl ..,r,v,h,hr => by unfold NilS at h; rw [← h.1]; exact data_rep hI _ _ h.2 hr
  | .nsl ..,r,v,h,hr => by unfold NilS at h; rw [← h.1]; exact data_rep hI _ _ h.2 hr
  | .sub ..,r,v,h,hr => by unfold NilS at h; rw [← h.1]; exact data_rep hI _ _ h.2 hr
  | .bsl ..,r,v,h,hr => by unfold NilS at h; rw [← h.1]; exact data_rep hI _ _ h.2 hr
  | .adr ..,r,v,h,hr => by unfold NilS at h; rw [← h.1]; exact data_rep hI _ _ h.2 hr
  | .ptr ..,r,v,h,hr => by unfold NilS at h; rw [← h.1]; exact data_rep hI _ _ h.2 hr
  | .nilp,r,v,h,hr => by unfold NilS at h; rw [← h.1]; exact data_rep hI _ _ h.2 hr
  | .own ..,r,v,h,hr => by unfold NilS at h; rw [← h.1]; exact data_rep hI _ _ h.2 hr
  | .oel ..,r,v,h,hr => by unfold NilS at h; rw [← h.1]; exact data_rep hI _ _ h.2 hr
  | .fn ..,r,v,h,hr => by unfold NilS at h; rw [← h.1]; exact data_rep hI _ _ h.2 hr
  | .yld ..,r,v,h,hr => by unfold NilS at h; rw [← h.1]; exact data_rep hI _ _ h.2 hr
  | .mp ..,r,v,h,hr => by unfold NilS at h; rw [← h.1]; exact data_rep hI _ _ h.2 hr
  | .arr ..,r,v,h,hr => by unfold NilS at h; rw [← h.1]; exact data_rep hI _ _ h.2 hr
  | .big ..,r,v,h,hr => by unfold NilS at h; rw [← h.1]; exact data_rep hI _ _ h.2 hr
theorem NilL.rep {E E' : En} {U U' : Nat → Bool} {w : World} (hI : E'.I = E.I) (hu : U' newBase = true) (hv : E'.sv newBase = .slice none 0 0) : ∀ (cs ds : List SV) (vs : List Value),NilL cs ds → RepL E U w cs vs → RepL E' U' w ds vs
  | [],[],vs,_,hr => by unfold RepL at *; exact hr
  | [],_ :: _,vs,h,_ => by unfold NilL at h; exact h.elim
  | _ :: _,[],vs,h,_ => by unfold NilL at h; exact h.elim
  | c :: cs,d :: ds,vs,h,hr => by
    unfold NilL at h
    unfold RepL at hr
    obtain ⟨v,u,e,h1,h2⟩:=hr
    subst e
    exact RepL.cons (NilS.rep hI hu hv c d v h.1 h1) (NilL.rep hI hu hv cs ds u h.2 h2)
end
theorem MFnOk.nil {P : Program} {f : FuncId} {L : Lay} {x : L.den} {s r : SV} {e : TypeId} {t : Ty} (h : MFnOk P f L x ⟨s,[],[]⟩) (hu : (L.st noU x).used newBase = false) (hfx : fixIds L.shs = []) (hn : NilS s r) : MFnOk P f L x ⟨r,[],[.row e t []]⟩:=by
  intro E w vals hs hr
  refine (h E w vals hs hr).mono ?_
  rintro e0 w' ⟨v,rfl,E',U',hle,hsat,hfr,hrep⟩
  have hlook : ∀ l k,lookBx l [] k = none:=fun l k => by cases l <;> rfl
  have hH : ∀ k o,(MOut.heap ⟨r,[],[.row e t []]⟩ L) k = some o → k = newBase ∧ o = .row e t []:=by
    intro k o hk
    have hlf : ∀ l k,lookFx [] l k = none:=fun l k => by cases l <;> rfl
    simp only [MOut.heap,hlook,hfx,hlf,List.length_nil,List.drop_zero,lookNew,beq_iff'] at hk
    by_cases hkn : k = newBase
    · rw [hkn] at hk ⊢
      simp only [decide_true,cond_true,Option.some.injEq] at hk
      exact ⟨rfl,hk.symm⟩
    · simp only [hkn,decide_false,cond_false] at hk
      cases hk
  refine ⟨v,rfl,{ E with I:=E'.I,sv:=fun k => bif Nat.beq k newBase then .slice none 0 0 else E.sv k },fun k => (L.st noU x).used k || Nat.beq k newBase,?_,?_,hfr,?_⟩
  · refine ⟨fun k hk => by simp only [hk,Bool.true_or],fun _ _ => rfl,fun k hk => ?_,hle.imm,hle.heap,fun _ _ => rfl⟩
    have hne : k ≠ newBase:=fun he => by rw [he,hu] at hk; cases hk
    simp only [beq_iff',hne,decide_false,cond_false]
  · have hlive : ∀ k,¬ Live { E with I:=E'.I,sv:=fun k => bif Nat.beq k newBase then .slice none 0 0 else E.sv k } (MOut.heap ⟨r,[],[.row e t []]⟩ L) k:=by
      rintro k ⟨o,hk,hl⟩
      obtain ⟨rfl,rfl⟩:=hH k o hk
      exact hl (by simp only [Nat.beq_refl,cond_true])
    refine ⟨fun k o hk => ?_,fun j k hj => (hlive j hj).elim,fun k hk => (hlive k hk).elim,hsat.lt,fun k hk => (hlive k hk).elim,hsat.frame⟩
    obtain ⟨rfl,rfl⟩:=hH k o hk
    refine ⟨by simp only [Nat.beq_refl,Bool.or_true],[],?_,rfl,.inl (by simp only [Nat.beq_refl,cond_true])⟩
    simp only [Nat.beq_refl,cond_true]
    exact ownR_nil w' e t.size
  · refine NilS.rep (E:=E') (E':={ E with I:=E'.I,sv:=fun k => bif Nat.beq k newBase then .slice none 0 0 else E.sv k }) (U:=U') rfl ?_ rfl s r v hn hrep
    show ((L.st noU x).used newBase || true) = true
    exact Bool.or_true _
theorem m_nil {P : Program} (hm : P.follows .mixedOrders = true) {cx : List (GC P)} {lps : List (Nat × LRun)} {f : FuncId} {fn : Func} (hf : P.funcs[f]? = some fn) {L : Lay} {own : Bool} {x : L.den} {r : SV} {e : TypeId} {t : Ty} {l : List t.den} (hok : L.mok = true) (hn : nodupB ((loopsOf 0 (bodyOf fn)).map (·.1)) = true)
    {T : Tree MOut} (ht : mTree cx (lpOf lps) fn L own x = T) (hl : AllK P [] fn.ntmps none (L.st noU x).used (bodyOf fn) lps) (hu : (L.st noU x).used newBase = false) (hfx : fixIds L.shs = [])
    (h : T.holds fun s => s = ⟨r,[],[.row e t l]⟩ ∨ (s.boxes = [] ∧ s.news = [] ∧ l = [] ∧ NilS s.res r)) : MFnOk P f L x ⟨r,[],[.row e t l]⟩:=by
  obtain ⟨s,h3,h4⟩:=Tree.holds_ex h
  rcases h3 with rfl | ⟨h1,h2,rfl,h3⟩
  · exact m_of hm hf hok hn ht hl h4
  · have:=m_of hm hf hok hn ht hl h4
    obtain ⟨sr,sb,sn⟩:=s
    cases h1
    cases h2
    exact this.nil hu hfx h3
theorem MFnOk.byNil {P : Program} {f : FuncId} {t : Ty} {l : List t.den} {o : MOut} {rb : Nat} (h : ∀ b,(b = true → l = []) → MFnOk P f ⟨[(0,.oval t)],[],[],rb⟩ ((l,b),()) o) : MFnOk P f ⟨[(0,.val (.sl t))],[],[],rb⟩ (l,()) o:=by
  intro E w vals hs hr
  have hr' : RepL E _ w [SV.sl t l] vals:=hr
  unfold RepL at hr'
  obtain ⟨v,r,rfl,hv,hr2⟩:=hr'
  classical
  refine h (decide (∃ n c,v = .slice none n c)) (fun hb => ?_) E w _ hs ?_
  · obtain ⟨n,c,hn⟩:=of_decide_eq_true hb
    unfold Rep at hv
    obtain ⟨u,hu,p,cap,e,_,hl⟩:=hv
    cases hu
    rcases hl with hl | ⟨b,o,hp,_⟩
    · exact hl
    · rw [hn] at e
      cases e
      cases hp
  · show RepL E _ w [SV.nsl t l _] (v :: r)
    refine RepL.cons ?_ hr2
    unfold Rep at hv ⊢
    exact ⟨hv,decide_eq_true_iff⟩
theorem FreshOk.le {P : Program} {f : FuncId} {args : List SV} {s r : SV} (h : FreshOk P f args s) (hd : isData r = true) (hl : LeS s r) : FreshOk P f args r:=by
  intro I w vals hI hr
  refine (h I w vals hI hr).mono ?_
  rintro e w' ⟨_,v,he,hf,I',h1,h2,hrep⟩
  exact ⟨hd,v,he,hf,I',h1,h2,LeS.rep s r v hl hrep⟩
theorem fr_le {P : Program} (hm : P.follows .mixedOrders = true) {cx : List (GC P)} {lps : List (Nat × LRun)} {f : FuncId} {fn : Func} (hf : P.funcs[f]? = some fn) {args : List SV} {res : SV} (hn : nodupB ((loopsOf 0 (bodyOf fn)).map (·.1)) = true)
    {T : Tree SV} (ht : frTree cx (lpOf lps) fn args = T) (hl : AllK P [] fn.ntmps none noU (bodyOf fn) lps) (hd : isData res = true) (h : T.holds fun s => LeS s res) : FreshOk P f args res:=by
  obtain ⟨s,h1,h2⟩:=Tree.holds_ex h
  exact (fr_of (res:=s) hm hf hn ht hl h2).le hd h1
end Go.Sx
set_option linter.unusedVariables false
namespace Go.Sx
open Go Go.RowKit
def Ty.ofBox : (t : Ty) → List SV → Option (t.den × List SV)
  | .pair a b,r => match a.ofBox r with
    | some (x,r1) => match b.ofBox r1 with
      | some (y,r2) => some ((x,y),r2)
      | none => none
    | none => none
  | .arr e n,.arr t m l :: r => if h : Ty.beq t e = true ∧ Nat.beq m n = true then some (show List e.den from (Ty.beq_eq h.1) ▸ l,r) else none
  | .int k,.int j n :: r => if kindBeq j k then some (n,r) else none
  | .bool,.bool b :: r => some (b,r)
  | .str,.str s :: r => some (s,r)
  | .unit,r => some ((),r)
  | .sl e,.sl t l :: r => if h : Ty.beq t e = true then some (show List e.den from (Ty.beq_eq h) ▸ l,r) else none
  | .sl e,.nils :: r => some (show List e.den from [],r)
  | _,_ => none
theorem Ty.ofBox_rep {E : En} {U : Nat → Bool} {w : World} : ∀ (t : Ty) (cs : List SV) (vs : List Value) (d : t.den) (r : List SV),t.ofBox cs = some (d,r) → RepL E U w cs vs →
    ∃ x vr,flatV cs vs = x ++ flatV r vr ∧ DRep E.I w t d x ∧ RepL E U w r vr
  | .pair a b,cs,vs,d,r,h,hr => by
    simp only [Ty.ofBox] at h
    split at h <;> try contradiction
    rename_i x r1 h1
    split at h <;> try contradiction
    rename_i y r2 h2
    cases h
    obtain ⟨u,v,e1,hd,hrest⟩:=Ty.ofBox_rep a _ _ _ _ h1 hr
    obtain ⟨u2,v2,e2,hd2,hrest2⟩:=Ty.ofBox_rep b _ _ _ _ h2 hrest
    exact ⟨u ++ u2,v2,by rw [e1,e2,List.append_assoc],⟨u,u2,rfl,hd,hd2⟩,hrest2⟩
  | .unit,cs,vs,d,r,h,hr => by
    simp only [Ty.ofBox,Option.some.injEq] at h
    cases h
    exact ⟨[],vs,rfl,rfl,hr⟩
  | .arr e n,cs,vs,d,r,h,hr => by
    match cs,h,hr with
    | .arr t m l :: r',h,hr =>
      simp only [Ty.ofBox] at h
      split at h <;> try contradiction
      rename_i hb
      have e1:=Ty.beq_eq hb.1
      have e2:=Nat.eq_of_beq_eq_true hb.2
      subst e1 e2
      cases h
      unfold RepL at hr
      obtain ⟨v,q,rfl,h1,h2⟩:=hr
      unfold Rep at h1
      obtain ⟨xs,e3,hn,hf⟩:=h1
      exact ⟨xs,q,by rw [flatV,e3]; simp [isArr,Value.cells],⟨hn,hf.toR⟩,h2⟩
  | .int k,cs,vs,d,r,h,hr => by
    match cs,h,hr with
    | .int j n :: r',h,hr =>
      simp only [Ty.ofBox] at h
      split at h <;> try contradiction
      rename_i hk
      have hk':=kindBeq_eq hk
      subst hk'
      cases h
      unfold RepL at hr
      obtain ⟨v,q,rfl,h1,h2⟩:=hr
      unfold Rep at h1
      subst h1
      exact ⟨[_],q,rfl,rfl,h2⟩
  | .bool,cs,vs,d,r,h,hr => by
    match cs,h,hr with
    | .bool b :: r',h,hr =>
      cases h
      unfold RepL at hr
      obtain ⟨v,q,rfl,h1,h2⟩:=hr
      unfold Rep at h1
      subst h1
      exact ⟨[_],q,rfl,rfl,h2⟩
  | .str,cs,vs,d,r,h,hr => by
    match cs,h,hr with
    | .str b :: r',h,hr =>
      cases h
      unfold RepL at hr
      obtain ⟨v,q,rfl,h1,h2⟩:=hr
      unfold Rep at h1
      subst h1
      exact ⟨[_],q,rfl,rfl,h2⟩
  | .sl e,cs,vs,d,r,h,hr => by
    match cs,h,hr with
    | .sl t l :: r',h,hr =>
      simp only [Ty.ofBox] at h
      split at h <;> try contradiction
      rename_i hb
      have hte:=Ty.beq_eq hb
      subst hte
      cases h
      unfold RepL at hr
      obtain ⟨v,q,rfl,h1,h2⟩:=hr
      unfold Rep at h1
      exact ⟨[v],q,rfl,h1,h2⟩
    | .nils :: r',h,hr =>
      cases h
      unfold RepL at hr
      obtain ⟨v,q,rfl,h1,h2⟩:=hr
      unfold Rep at h1
      subst h1
      exact ⟨[_],q,rfl,⟨_,rfl,none,0,rfl,Nat.le_refl _,.inl rfl⟩,h2⟩
def tailP (H : Hp) : SV → Option (List SV)
  | .ptr k off => match H k with
    | some (.box cells) => match splitW off cells with
      | some (_,rest) => some rest
      | none => none
    | _ => none
  | _ => none
theorem tailP_some {H : Hp} {v : SV} {rest : List SV} (h : tailP H v = some rest) : ∃ k off cells pre,v = .ptr k off ∧ H k = some (.box cells) ∧ splitW off cells = some (pre,rest):=by
  cases v <;> simp only [tailP] at h <;> try (cases h; done)
  rename_i k off
  split at h <;> try (cases h; done)
  rename_i cells hH
  split at h <;> try (cases h; done)
  rename_i pre rest' hsp
  cases h
  exact ⟨k,off,cells,pre,rfl,hH,hsp⟩
def decP (H : Hp) (t : Ty) (v : SV) : Option t.den :=
  match v with
  | .adr t' d => if h : Ty.beq t' t = true then some ((Ty.beq_eq h) ▸ d) else none
  | v => match tailP H v with
    | some rest => if Nat.ble 1 t.size then match t.ofBox (vwL H rest) with
      | some (d,_) => some d
      | none => none
      else none
    | none => none
def decX (H : Hp) : (l : List Sh) → List SV → Option (denL l)
  | [],[] => some ()
  | .adr t :: r,v :: q => match decP H t v,decX H r q with
    | some d,some x => some (d,x)
    | _,_ => none
  | .val t :: r,v :: q => match Sh.dec (.val t) (vw H v),decX H r q with
    | some d,some x => some (d,x)
    | _,_ => none
  | .agg t :: r,v :: q => match Sh.dec (.agg t) (vw H v),decX H r q with
    | some d,some x => some (d,x)
    | _,_ => none
  | _,_ => none
def idsX (H : Hp) : List SV → List Nat
  | v :: q => (match tailP H v with
    | some rest => idsL rest
    | none => idsOf v) ++ idsX H q
  | [] => []
theorem decP_ok {w0 : World} {M : Nat → Prop} {E E1 : En} {U : Nat → Bool} {H H1 : Hp} {w : World} (hs : HSat w0 M E U H w) (hs1 : HSat w0 M E1 U H1 w) (hle : En.Le U U E E1 w w) {t : Ty} {v : SV} {u : Value} {d : t.den}
    (hk : ∀ rest,tailP H v = some rest → ∀ k ∈ idsL rest,H1 k = frzOb (H k)) (h : decP H t v = some d) (hr : Rep E U w v u) :
    ∃ B : Nat → Prop,(∀ b,B b → b < w.heap.size) ∧ Rep (E0 fun b => E1.I b ∨ B b) noU w (.adr t d) u:=by
  unfold decP at h
  split at h
  · split at h <;> try (cases h; done)
    rename_i hb
    have e:=Ty.beq_eq hb
    subst e
    cases h
    refine ⟨fun _ => False,fun b hb => hb.elim,?_⟩
    unfold Rep at hr ⊢
    obtain ⟨b,o,cs,ev,hI,hrow,hd⟩:=hr
    exact ⟨b,o,cs,ev,.inl (hle.imm b hI),hrow,DRep.mono (fun b hb => .inl (hle.imm b hb)) (fun _ _ => rfl) _ _ _ hd⟩
  · split at h <;> try (cases h; done)
    rename_i rest htail
    split at h <;> try (cases h; done)
    rename_i hsz
    have hsz:=Nat.le_of_ble_eq_true hsz
    split at h <;> try (cases h; done)
    rename_i d' r hd
    cases h
    have htail0:=htail
    obtain ⟨k,off,cells,pre,rfl,hH,hsp⟩:=tailP_some htail
    obtain ⟨_,vs,ty,hh,hcells⟩:=hs.ob k _ hH
    unfold Rep at hr
    obtain ⟨ecs,a,b,ev,h1,h2,h3⟩:=splitW_ok hsp hcells
    have hv:=vwL_rep (H:=H) hs1 rest b (fun k hk' => hk rest htail0 k hk') (RepL.mono hle _ _ h2)
    obtain ⟨x,vr,e1,hdr,_⟩:=Ty.ofBox_rep t _ _ _ _ hd hv
    have e2 : flatV (vwL H rest) b = flatV rest b:=flatV_congr (vwL_mask H rest)
    have e3 : flatV cells vs = flatV pre a ++ (x ++ flatV r vr):=by
      rw [ecs,ev,flatV_append h1.length,← e2,e1]
    have hrow:=heap_row hh off x.length
    rw [e3,show off = (flatV pre a).length from h3.symm,List.drop_left,List.take_left] at hrow
    have hlt : E.ρ k < w.heap.size:=(Array.getElem?_eq_some_iff.1 hh).1
    refine ⟨fun b => b = E.ρ k,fun b e => e ▸ hlt,?_⟩
    unfold Rep
    exact ⟨E.ρ k,off,x,hr.2,.inr rfl,by rw [← h3]; exact hrow,DRep.mono (fun _ h => .inl h) (fun _ _ => rfl) _ _ _ hdr⟩
theorem decX_ok {w0 : World} {M : Nat → Prop} {E E1 : En} {U : Nat → Bool} {H H1 : Hp} {w : World} (hs : HSat w0 M E U H w) (hs1 : HSat w0 M E1 U H1 w) (hle : En.Le U U E E1 w w) :
    ∀ (i : Nat) (l : List Sh) (args : List SV) (vals : List Value) (x : denL l),(∀ k ∈ idsX H args,H1 k = frzOb (H k)) → decX H l args = some x → RepL E U w args vals →
      ∃ B : Nat → Prop,(∀ b,B b → b < w.heap.size) ∧ RepL (E0 fun b => E1.I b ∨ B b) noU w (encL i l x) vals
  | i,[],[],vals,x,_,_,hr => ⟨fun _ => False,fun b hb => hb.elim,by unfold RepL at hr; subst hr; exact RepL.nil⟩
  | i,[],_ :: _,_,_,_,h,_ => by simp [decX] at h
  | i,s :: _,[],_,_,_,h,_ => by cases s <;> simp [decX] at h
  | i,s :: r,v :: q,vals,x,hk,h,hr => by
    unfold RepL at hr
    obtain ⟨u,ur,e,hv,hu⟩:=hr
    subst e
    have tail : ∀ y,decX H r q = some y → ∃ B : Nat → Prop,(∀ b,B b → b < w.heap.size) ∧ RepL (E0 fun b => E1.I b ∨ B b) noU w (encL (i + 1) r y) ur :=
      fun y hy => decX_ok hs hs1 hle (i + 1) r q ur y (fun k hk' => hk k (List.mem_append_right _ hk')) hy hu
    have data : ∀ (hval : s = s) (d : s.den) (y : denL r),s.dec (vw H v) = some d → decX H r q = some y → tailP H v = none → ∃ B : Nat → Prop,(∀ b,B b → b < w.heap.size) ∧ RepL (E0 fun b => E1.I b ∨ B b) noU w (encL i (s :: r) (d,y)) (u :: ur):=by
      intro _ d y hd hy ht
      obtain ⟨B,hB,hrest⟩:=tail y hy
      refine ⟨B,hB,RepL.cons ?_ hrest⟩
      have hvv:=vw_rep (H:=H) hs1 v u (fun k hk' => hk k (by unfold idsX; rw [ht]; exact List.mem_append_left _ hk')) (Rep.mono hle _ _ hv)
      have:=Sh.dec_ok (E:=E1) (E':=E0 E1.I) (U':=noU) rfl i hd hvv
      exact Rep.mono (E0_le (w:=w) fun b hb => .inl hb) _ _ this
    have notail : ∀ (d : s.den),s.dec (vw H v) = some d → (∀ t,s ≠ .adr t) → tailP H v = none:=by
      intro d hd hne
      cases htl : tailP H v with
      | none => rfl
      | some rest =>
        cases v <;> simp [tailP] at htl
        rename_i k off
        rw [show vw H (.ptr k off) = .ptr k off from by unfold vw; rfl] at hd
        cases s with
        | val t =>
          simp only [Sh.dec] at hd
          split at hd <;> try (cases hd; done)
          rename_i d' hd'
          exact absurd hd' (by
            have key : ∀ (t : Ty) (r q : List SV) (d : t.den),t.ofCells (.ptr k off :: r) = some (d,q) → q = .ptr k off :: r:=by
              intro t
              induction t with
              | pair a b iha ihb =>
                intro r q d h
                simp only [Ty.ofCells] at h
                split at h <;> try (cases h; done)
                rename_i x r1 h1
                have e:=iha _ _ _ h1
                subst e
                split at h <;> try (cases h; done)
                rename_i y r2 h2
                cases h
                exact ihb _ _ _ h2
              | unit => intro r q d h; simp only [Ty.ofCells,Option.some.injEq] at h; exact (congrArg Prod.snd h).symm
              | _ => intro r q d h; simp [Ty.ofCells] at h
            intro hc
            have:=key _ _ _ _ hc
            cases this)
        | agg t => simp only [Sh.dec] at hd; cases hd
        | adr t => exact absurd rfl (hne t)
        | _ => simp [Sh.dec] at hd
    cases s with
    | adr t =>
      simp only [decX] at h
      split at h <;> try (cases h; done)
      rename_i d y hd hy
      cases h
      obtain ⟨B1,hB1,h1⟩:=decP_ok hs hs1 hle (fun rest hrest k hk' => hk k (by unfold idsX; rw [hrest]; exact List.mem_append_left _ hk')) hd hv
      obtain ⟨B2,hB2,h2⟩:=tail y hy
      refine ⟨fun b => B1 b ∨ B2 b,fun b hb => hb.elim (hB1 b) (hB2 b),RepL.cons ?_ ?_⟩
      · exact Rep.mono (E0_le (w:=w) fun b hb => hb.elim .inl fun h => .inr (.inl h)) _ _ h1
      · exact RepL.mono (E0_le (w:=w) fun b hb => hb.elim .inl fun h => .inr (.inr h)) _ _ h2
    | val t =>
      simp only [decX] at h
      split at h <;> try (cases h; done)
      rename_i d y hd hy
      cases h
      exact data rfl d y hd hy (notail d hd fun _ e => by cases e)
    | agg t =>
      simp only [decX] at h
      split at h <;> try (cases h; done)
      rename_i d y hd hy
      cases h
      exact data rfl d y hd hy (notail d hd fun _ e => by cases e)
    | _ => simp [decX] at h
mutual
def isFr : SV → Bool
  | .sl _ _ | .osl _ _ | .nsl _ _ _ | .adr _ _ | .arr _ _ _ | .big _ | .fn _ _ | .yld _ | .mp _ | .sub _ _ _ _ | .bsl _ _ => false
  | .agg cs => isFrL cs
  | .tup cs => isFrL cs
  | _ => true
def isFrL : List SV → Bool
  | [] => true
  | c :: cs => isFr c && isFrL cs
end
mutual
theorem fr_rep {E E2 : En} {U U2 : Nat → Bool} {w : World} {f : Nat → Nat} : ∀ (s : SV) (v : Value),isFr s = true → (∀ k ∈ idsOf s,U2 (f k) = true ∧ E2.ρ (f k) = E.ρ k ∧ E2.sv (f k) = E.sv k) → Rep E U w s v → Rep E2 U2 w (renSV f s) v
  | .ptr k o,v,_,h,hr => by
    obtain ⟨h1,h2,_⟩:=h k (by simp [idsOf])
    unfold renSV; unfold Rep at *
    exact ⟨h1,by rw [h2]; exact hr.2⟩
  | .own k,v,_,h,hr => by
    obtain ⟨h1,_,h2⟩:=h k (by simp [idsOf])
    unfold renSV; unfold Rep at *
    exact ⟨h1,by rw [h2]; exact hr.2.1,hr.2.2⟩
  | .oel k s i o,v,_,h,hr => by
    obtain ⟨h1,h2,_⟩:=h k (by simp [idsOf])
    unfold renSV; unfold Rep at *
    exact ⟨h1,by rw [h2]; exact hr.2⟩
  | .agg cs,v,hf,h,hr => by
    unfold isFr at hf
    unfold renSV; unfold Rep at *; obtain ⟨vs,e,hl⟩:=hr; exact ⟨vs,e,fr_repL cs vs hf (fun k hk => h k (by simpa [idsOf] using hk)) hl⟩
  | .tup cs,v,hf,h,hr => by
    unfold isFr at hf
    unfold renSV; unfold Rep at *; obtain ⟨vs,e,hl⟩:=hr; exact ⟨vs,e,fr_repL cs vs hf (fun k hk => h k (by simpa [idsOf] using hk)) hl⟩
  | .any,v,_,_,hr => by unfold renSV; exact flat_rep .any v rfl hr
  | .int k n,v,_,_,hr => by unfold renSV; exact flat_rep (.int k n) v rfl hr
  | .bool b,v,_,_,hr => by unfold renSV; exact flat_rep (.bool b) v rfl hr
  | .str b,v,_,_,hr => by unfold renSV; exact flat_rep (.str b) v rfl hr
  | .nils,v,_,_,hr => by unfold renSV; exact flat_rep .nils v rfl hr
  | .nilp,v,_,_,hr => by unfold renSV; exact flat_rep .nilp v rfl hr
  | .yld _,_,hf,_,_ => by cases hf
  | .mp _,_,hf,_,_ => by cases hf
  | .fn _ _,_,hf,_,_ => by cases hf
  | .big _,_,hf,_,_ => by cases hf
  | .arr _ _ _,_,hf,_,_ => by cases hf
  | .sl _ _,_,hf,_,_ => by cases hf
  | .osl _ _,_,hf,_,_ => by cases hf
  | .nsl _ _ _,_,hf,_,_ => by cases hf
  | .sub _ _ _ _,_,hf,_,_ => by cases hf
  | .bsl _ _,_,hf,_,_ => by cases hf
  | .adr _ _,_,hf,_,_ => by cases hf
theorem fr_repL {E E2 : En} {U U2 : Nat → Bool} {w : World} {f : Nat → Nat} : ∀ (s : List SV) (v : List Value),isFrL s = true → (∀ k ∈ idsL s,U2 (f k) = true ∧ E2.ρ (f k) = E.ρ k ∧ E2.sv (f k) = E.sv k) → RepL E U w s v → RepL E2 U2 w (renL f s) v
  | [],_,_,_,h => by unfold renL; unfold RepL at *; exact h
  | c :: cs,_,hf,hk,h => by
    unfold isFrL at hf
    rw [Bool.and_eq_true] at hf
    unfold renL
    unfold RepL at *
    obtain ⟨v,r,e,h1,h2⟩:=h
    exact ⟨v,r,e,fr_rep c v hf.1 (fun k hk' => hk k (by simp [idsL,hk'])) h1,fr_repL cs r hf.2 (fun k hk' => hk k (by simp [idsL,hk'])) h2⟩
end
def newFr : Ob → Bool
  | .row _ t _ => t.flat
  | .box cs => isFlatL cs
  | _ => false
def MOut.fr (o : MOut) : Bool:=o.boxes.isEmpty && o.news.all newFr && isFr o.res && (idsOf o.res).all fun k => Nat.ble newBase k && Nat.blt (k - newBase) o.news.length
structure XC (P : Program) where
  f : FuncId
  L : Lay
  pre : L.den → Option Prop
  out : L.den → MOut
  ent : entB P f = true
  lok : (L.boxes.isEmpty && L.recs.isEmpty) = true
  ok : ∀ x,ndP (pre x) → MFnOk P f L x (out x)
def XC.con {P : Program} (c : XC P) : Con:=fun args H base => match decX H c.L.shs args with
  | some x => bif (c.out x).fr then some {
      need:=c.pre x
      res:=renSV (fun k => base + (k - newBase)) (c.out x).res
      upd:=updNew base (c.out x).news
      news:=(List.range (c.out x).news.length).map (base + ·) } else none
  | none => none
theorem rowsL_noneX {H : Hp} : ∀ {i : Nat} {l : List Sh} {args : List SV} {x y : denL l} {k : Nat},decX H l args = some y → rowsL i l x k = none
  | _,[],[],_,_,_,_ => rfl
  | _,[],_ :: _,_,_,_,h => by simp [decX] at h
  | _,s :: _,[],_,_,_,h => by cases s <;> simp [decX] at h
  | i,s :: r,v :: q,x,y,k,h => by
    cases s with
    | adr t =>
      simp only [decX] at h
      split at h <;> try (cases h; done)
      rename_i d y hd hy
      exact rowsL_noneX (i:=i + 1) (l:=r) hy
    | val t =>
      simp only [decX] at h
      split at h <;> try (cases h; done)
      rename_i d y hd hy
      exact rowsL_noneX (i:=i + 1) (l:=r) hy
    | agg t =>
      simp only [decX] at h
      split at h <;> try (cases h; done)
      rename_i d y hd hy
      exact rowsL_noneX (i:=i + 1) (l:=r) hy
    | _ => simp [decX] at h
theorem rowIds_noneX {H : Hp} : ∀ {i : Nat} {l : List Sh} {args : List SV} {y : denL l},decX H l args = some y → rowIds i l = []
  | _,[],[],_,_ => rfl
  | _,[],_ :: _,_,h => by simp [decX] at h
  | _,s :: _,[],_,h => by cases s <;> simp [decX] at h
  | i,s :: r,v :: q,y,h => by
    cases s with
    | adr t =>
      simp only [decX] at h
      split at h <;> try (cases h; done)
      rename_i d y hd hy
      exact rowIds_noneX (i:=i + 1) (l:=r) hy
    | val t =>
      simp only [decX] at h
      split at h <;> try (cases h; done)
      rename_i d y hd hy
      exact rowIds_noneX (i:=i + 1) (l:=r) hy
    | agg t =>
      simp only [decX] at h
      split at h <;> try (cases h; done)
      rename_i d y hd hy
      exact rowIds_noneX (i:=i + 1) (l:=r) hy
    | _ => simp [decX] at h
theorem fixIds_noneX {H : Hp} : ∀ {i : Nat} {l : List Sh} {args : List SV} {y : denL l},decX H l args = some y → fixIds l = []
  | _,[],[],_,_ => rfl
  | _,[],_ :: _,_,h => by simp [decX] at h
  | _,s :: _,[],_,h => by cases s <;> simp [decX] at h
  | i,s :: r,v :: q,y,h => by
    cases s with
    | adr t =>
      simp only [decX] at h
      split at h <;> try (cases h; done)
      rename_i d y hd hy
      exact fixIds_noneX (i:=i + 1) (l:=r) hy
    | val t =>
      simp only [decX] at h
      split at h <;> try (cases h; done)
      rename_i d y hd hy
      exact fixIds_noneX (i:=i + 1) (l:=r) hy
    | agg t =>
      simp only [decX] at h
      split at h <;> try (cases h; done)
      rename_i d y hd hy
      exact fixIds_noneX (i:=i + 1) (l:=r) hy
    | _ => simp [decX] at h
theorem encL_length : ∀ (i : Nat) (l : List Sh) (x : denL l),(encL i l x).length = l.length
  | _,[],_ => rfl
  | i,s :: r,x => by rw [encL,List.length_cons,encL_length (i + 1) r x.2,List.length_cons]
theorem XC.conOk {P : Program} (c : XC P) : ConOk P c.f c.con:=by
  intro args H base eff he E U w vals hs hr hnews hnd
  simp only [XC.con] at he
  split at he <;> try (cases he; done)
  rename_i x hx
  cases hfo : (c.out x).fr with
  | false => rw [hfo] at he; cases he
  | true =>
    rw [hfo] at he
    cases he
    obtain ⟨E1,hle1,hs1,hfr⟩:=hs.freezeAll (idsX H args) E H
    obtain ⟨B,hB,hargs⟩:=decX_ok hs hs1 hle1 c.L.rb c.L.shs args vals x (fun k hk => by simp [hk]) hx hr
    have hlok:=c.lok
    rw [Bool.and_eq_true,List.isEmpty_iff,List.isEmpty_iff] at hlok
    obtain ⟨hbx,hrc⟩:=hlok
    have hheap : (c.L.st noU x).heap = fun _ => none:=by
      funext k
      show (match lookB c.L.sizes ((encL c.L.rb c.L.shs x).drop c.L.slots.length) k with
        | some cs => some (.box cs)
        | none => match lookR c.L.recs k with
          | some o => some o
          | none => rowsL c.L.rb c.L.shs x k) = none
      rw [show c.L.sizes = [] from by unfold Lay.sizes; rw [hbx]; rfl,hrc]
      exact rowsL_noneX hx
    have hused : (c.L.st noU x).used = noU:=by
      funext k
      show usd noU (c.L.ids ++ rowIds c.L.rb c.L.shs) k = false
      rw [show c.L.ids = [] from by unfold Lay.ids; rw [hbx,hrc,fixIds_noneX (i:=0) hx]; rfl,rowIds_noneX hx]
      rfl
    have hparams : c.L.params x = encL c.L.rb c.L.shs x:=by
      unfold Lay.params
      refine List.take_of_length_le ?_
      rw [encL_length]
      show (c.L.slots.map (·.2) ++ c.L.boxes.flatMap (·.2)).length ≤ _
      rw [hbx]; simp
    have hok:=c.ok x hnd (E0 fun b => E1.I b ∨ B b) w vals
    rw [hheap,hused,hparams] at hok
    have hno : ∀ (F : En) k,¬ Live F (fun _ => none) k:=fun F k hk => by obtain ⟨o,h,_⟩:=hk; cases h
    have hstart:=HSat.start (I:=fun b => E1.I b ∨ B b) (w:=w) (fun b hb => hb.elim (hs1.lt b) (hB b))
    have hM : ∀ F : En,Mof F (fun _ => none) = fun _ => False:=fun F => by
      funext b
      exact propext ⟨fun ⟨k,hk,_⟩ => (hno F k hk).elim,fun h => h.elim⟩
    rw [hM] at hok
    refine (hok hstart hargs).mono ?_
    rintro e w' ⟨v,rfl,E',U',hle',h',hI',hrep'⟩
    refine ⟨v,rfl,?_⟩
    have hmh : ∀ k,((c.out x).heap c.L) k = lookNew newBase (c.out x).news k:=fun k => by
      unfold MOut.heap
      rw [hbx,fixIds_noneX (i:=0) hx]
      have e1 : ∀ l k,lookFx [] l k = none:=fun l k => by cases l <;> rfl
      rw [e1]
      rfl
    unfold MOut.fr at hfo
    simp only [Bool.and_eq_true] at hfo
    obtain ⟨⟨⟨_,hnf⟩,hrf⟩,hids⟩:=hfo
    generalize hns : (c.out x).news = ns at *
    have hnewU : ∀ k,base ≤ k → k < base + ns.length → U k = false:=fun k h1 h2 =>
      hnews k (List.mem_map.2 ⟨k - base,List.mem_range.2 (by omega),by show base + (k - base) = k; omega⟩)
    generalize hnw : (List.range ns.length).map (base + ·) = news
    have hmemn : ∀ k,k ∈ news ↔ base ≤ k ∧ k < base + ns.length:=fun k => by
      rw [← hnw,List.mem_map]
      constructor
      · rintro ⟨j,hj,rfl⟩
        have:=List.mem_range.1 hj
        exact ⟨by omega,by omega⟩
      · rintro ⟨h1,h2⟩
        exact ⟨k - base,List.mem_range.2 (by omega),by omega⟩
    have hapU : ∀ k,apU U news k = true ↔ (U k = true ∨ k ∈ news):=fun k => by
      unfold apU
      rw [Bool.or_eq_true,show news.any (Nat.beq k) = inL news k from rfl,inL_iff]
    let E2 : En:=⟨fun k => if base ≤ k ∧ k < base + ns.length then E'.ρ (newBase + (k - base)) else E.ρ k,fun k => if base ≤ k ∧ k < base + ns.length then E'.sv (newBase + (k - base)) else E.sv k,E.I,E.rc⟩
    have hold : ∀ k,U k = true → ¬ (base ≤ k ∧ k < base + ns.length):=fun k hk h => by
      rw [hnewU k h.1 h.2] at hk; cases hk
    have hf:=h'.frame
    have hleE : En.Le U (apU U news) E E2 w w':=⟨fun k hk => (hapU k).2 (.inl hk),fun k hk => if_neg (hold k hk),fun k hk => if_neg (hold k hk),fun _ h => h,fun b hb => hf.block b (hs.lt b hb) fun x => x,fun _ _ => rfl⟩
    have τn : ∀ j,j < ns.length → E2.ρ (base + j) = E'.ρ (newBase + j) ∧ E2.sv (base + j) = E'.sv (newBase + j):=fun j hj => by
      have hyes : base ≤ base + j ∧ base + j < base + ns.length:=⟨by omega,by omega⟩
      have e : base + j - base = j:=by omega
      constructor
      · show (if _ then _ else _) = _
        rw [if_pos hyes,e]
      · show (if _ then _ else _) = _
        rw [if_pos hyes,e]
    -- what stands under a name
    have hcl : ∀ k o,apH H (updNew base ns) k = some o → (H k = some o ∧ U k = true ∧ E2.ρ k = E.ρ k ∧ E2.sv k = E.sv k) ∨ (∃ j,k = base + j ∧ j < ns.length ∧ ((c.out x).heap c.L) (newBase + j) = some o ∧ newFr o = true):=by
      intro k o hk
      rcases updNew_get (K:=H) (ns:=ns) (base:=base) k with ⟨h3,h4⟩ | ⟨j,b',h3,h4,h5⟩
      · rw [h4] at hk
        have hU:=(hs.ob k o hk).1
        exact .inl ⟨hk,hU,if_neg h3,if_neg h3⟩
      · rw [h5] at hk
        cases hk
        have hlt:=(List.getElem?_eq_some_iff.1 h4).1
        refine .inr ⟨j,h3,hlt,?_,List.all_eq_true.1 hnf _ (List.mem_of_getElem? h4)⟩
        rw [hmh]
        exact lookNew_of h4
    have hlive : ∀ k,Live E2 (apH H (updNew base ns)) k → (Live E H k ∧ E2.ρ k = E.ρ k) ∨ (∃ j,k = base + j ∧ Live E' ((c.out x).heap c.L) (newBase + j) ∧ E2.ρ k = E'.ρ (newBase + j)):=by
      rintro k ⟨o,ho,hl⟩
      rcases hcl k o ho with ⟨h1,h2,h3,h4⟩ | ⟨j,rfl,h1,h2,h3⟩
      · exact .inl ⟨⟨o,h1,Ob.live_back h4 hl⟩,h3⟩
      · obtain ⟨t1,t2⟩:=τn j h1
        refine .inr ⟨j,rfl,⟨o,h2,?_⟩,t1⟩
        cases o with
        | box c => trivial
        | row e t l => show E'.sv _ ≠ _; rw [← t2]; exact hl
        | frz t l => exact hl
        | clip t l => exact hl
        | rnd p => trivial
        | mp es => trivial
        | hole e vs i x => trivial
    have hge : ∀ j,Live E' ((c.out x).heap c.L) (newBase + j) → w.heap.size ≤ E'.ρ (newBase + j):=fun j hj => by
      rcases h'.mine _ hj with h | h
      · exact h.elim
      · exact h
    refine ⟨E2,hleE,⟨fun k o hk => ?_,fun j k hj hk he => ?_,fun k hk => ?_,fun b hb => Nat.lt_of_lt_of_le (hs.lt b hb) hf.size,fun k hk => ?_,?_⟩,FreshI.refl (E:=E) (E':=E2) rfl H w,?_⟩
    · rcases hcl k o hk with ⟨h1,h2,h3,h4⟩ | ⟨j,rfl,h1,h2,h3⟩
      · obtain ⟨_,hob⟩:=hs.ob k o h1
        exact ⟨(hapU k).2 (.inl h2),hob.mono hleE h2 fun hl => hf.block _ (hob.lt hl) fun x => x⟩
      · obtain ⟨t1,t2⟩:=τn j h1
        refine ⟨(hapU _).2 (.inr ((hmemn _).2 ⟨by omega,by omega⟩)),?_⟩
        have hob:=(h'.ob _ o h2).2
        cases o with
        | box cs =>
          obtain ⟨vs,ty,h5,h6⟩:=hob
          exact ⟨vs,ty,by rw [t1]; exact h5,flat_repL cs vs h3 h6⟩
        | row e t l =>
          obtain ⟨xs,h5,h6,h7⟩:=hob
          exact ⟨xs,by rw [t2]; exact h5,Flat.flat h3 _ _ h6,by rw [t1,t2]; exact h7⟩
        | frz t l => cases h3
        | clip t l => cases h3
        | rnd p => cases h3
        | mp es => cases h3
        | hole e vs i x => cases h3
    · rcases hlive j hj with ⟨h1,e1⟩ | ⟨j',rfl,h1,e1⟩ <;> rcases hlive k hk with ⟨h2,e2⟩ | ⟨k',rfl,h2,e2⟩
      · exact hs.inj j k h1 h2 (by rw [← e1,← e2]; exact he)
      · have:=hs.liveLt h1
        have:=hge k' h2
        rw [e1,e2] at he
        omega
      · have:=hs.liveLt h2
        have:=hge j' h1
        rw [e1,e2] at he
        omega
      · have:=h'.inj _ _ h1 h2 (by rw [← e1,← e2]; exact he)
        omega
    · rcases hlive k hk with ⟨h1,e1⟩ | ⟨k',rfl,h1,e1⟩
      · rw [e1]; exact hs.imm k h1
      · rw [e1]
        intro hb
        have:=hs.lt _ hb
        have:=hge k' h1
        omega
    · rcases hlive k hk with ⟨h1,e1⟩ | ⟨k',rfl,h1,e1⟩
      · rw [e1]; exact hs.mine k h1
      · rw [e1]; exact .inr (hge k' h1)
    · exact ⟨hf.os,hf.tape,hf.output,hf.size,hf.drawn,fun b hb hm => hf.block b hb fun x => x⟩
    · refine fr_rep _ v hrf (fun k hk => ?_) hrep'
      have:=List.all_eq_true.1 hids k hk
      rw [Bool.and_eq_true] at this
      have h5:=Nat.le_of_ble_eq_true this.1
      have h6 : k - newBase < ns.length:=by simpa [Nat.blt_eq] using this.2
      obtain ⟨t1,t2⟩:=τn (k - newBase) h6
      rw [show newBase + (k - newBase) = k from by omega] at t1 t2
      exact ⟨(hapU _).2 (.inr ((hmemn _).2 ⟨by omega,by omega⟩)),t1,t2⟩
def XC.gc {P : Program} (c : XC P) : GC P:={ f:=c.f,con:=c.con,ent:=c.ent,ok:=c.conOk }
def XC.of {P : Program} {α : Type} (f : FuncId) (L : Lay) (to : L.den → α) (of : α → L.den) (hof : ∀ x,of (to x) = x) (pre : α → Option Prop) (out : α → MOut) (ent : entB P f = true) (lok : (L.boxes.isEmpty && L.recs.isEmpty) = true) (ok : ∀ a,ndP (pre a) → MFnOk P f L (of a) (out a)) : XC P where
  f:=f
  L:=L
  pre:=fun x => pre (to x)
  out:=fun x => out (to x)
  ent:=ent
  lok:=lok
  ok:=fun x hx => by have:=ok (to x) hx; rwa [hof] at this
def FC.conX {P : Program} (c : FC P) : Con:=fun args H _ => match decX H c.ps args with
  | some x => some { need:=c.pre x,res:=c.out x }
  | none => none
theorem FC.conXOk {P : Program} (c : FC P) : ConOk P c.f c.conX:=by
  intro args H base eff he E U w vals hs hr _ hnd
  simp only [FC.conX] at he
  split at he <;> try (cases he; done)
  rename_i x hx
  cases he
  obtain ⟨E1,hle1,hs1,hfr⟩:=hs.freezeAll (idsX H args) E H
  obtain ⟨B,hB,hargs⟩:=decX_ok hs hs1 hle1 0 c.ps args vals x (fun k hk => by simp [hk]) hx hr
  refine (c.ok x hnd (fun b => E1.I b ∨ B b) w vals (fun b hb => hb.elim (hs1.lt b) (hB b)) hargs).mono ?_
  rintro e w' ⟨hdat,v,rfl,hf,I',hI1,hI2,hrep⟩
  refine ⟨v,rfl,?_⟩
  simp only [apU_nil,apH_nil]
  obtain ⟨h1,h2⟩:=hs.still hf (I':=fun b => E.I b ∨ I' b) (fun _ h => .inl h) (fun b h => h.imp_right (hI1 b)) (fun b hb => hb.elim (fun h => Nat.lt_of_lt_of_le (hs.lt b h) hf.size) (hI2 b))
  refine ⟨_,h1,h2,fun b hb => hb.imp_right fun h => .inr (hI1 b h),?_⟩
  have hd:=data_rep (E:=E0 I') (E':={ E with I:=I' }) (U':=U) rfl _ _ hdat hrep
  exact Rep.mono (E:={ E with I:=I' }) (E':={ E with I:=fun b => E.I b ∨ I' b }) (U:=U) (w:=w') ⟨fun _ h => h,fun _ _ => rfl,fun _ _ => rfl,fun b h => Or.inr (a:=E.I b) h,fun _ _ => rfl,fun _ _ => rfl⟩ _ _ hd
structure XF (P : Program) where
  fc : FC P
def XF.gc {P : Program} (c : XF P) : GC P:={ f:=c.fc.f,con:=c.fc.conX,ent:=c.fc.ent,ok:=c.fc.conXOk }
def XF.of {P : Program} {α : Type} (f : FuncId) (ps : List Sh) (to : denL ps → α) (of : α → denL ps) (hof : ∀ x,of (to x) = x) (pre : α → Option Prop) (out : α → SV) (ent : entB P f = true) (ok : ∀ a,ndP (pre a) → FreshOk P f (encL 0 ps (of a)) (out a)) : XF P:=⟨FC.of f ps to of hof pre out ent ok⟩
end Go.Sx
set_option linter.unusedVariables false
namespace Go.Sx
open Go Go.RowKit
mutual
theorem ids_used {E : En} {U : Nat → Bool} {w : World} : ∀ (s : SV) (v : Value),Rep E U w s v → ∀ k ∈ idsOf s,U k = true
  | .ptr k _,v,h,j,hj => by unfold Rep at h; simp only [idsOf,List.mem_singleton] at hj; rw [hj]; exact h.1
  | .own k,v,h,j,hj => by unfold Rep at h; simp only [idsOf,List.mem_singleton] at hj; rw [hj]; exact h.1
  | .oel k _ _ _,v,h,j,hj => by unfold Rep at h; simp only [idsOf,List.mem_singleton] at hj; rw [hj]; exact h.1
  | .sub k _ _ _,v,h,j,hj => by unfold Rep at h; simp only [idsOf,List.mem_singleton] at hj; rw [hj]; exact h.1
  | .bsl k _,v,h,j,hj => by unfold Rep at h; simp only [idsOf,List.mem_singleton] at hj; rw [hj]; exact h.1
  | .yld k,v,h,j,hj => by unfold Rep at h; simp only [idsOf,List.mem_singleton] at hj; rw [hj]; exact h.1
  | .mp k,v,h,j,hj => by unfold Rep at h; simp only [idsOf,List.mem_singleton] at hj; rw [hj]; exact h.1
  | .big cs,v,h,j,hj => by unfold Rep at h; obtain ⟨vs,_,hl⟩:=h; exact ids_usedL cs vs hl j (by simpa [idsOf] using hj)
  | .agg cs,v,h,j,hj => by unfold Rep at h; obtain ⟨vs,_,hl⟩:=h; exact ids_usedL cs vs hl j (by simpa [idsOf] using hj)
  | .tup cs,v,h,j,hj => by unfold Rep at h; obtain ⟨vs,_,hl⟩:=h; exact ids_usedL cs vs hl j (by simpa [idsOf] using hj)
  | .fn _ cs,v,h,j,hj => by unfold Rep at h; obtain ⟨vs,_,hl⟩:=h; exact ids_usedL cs vs hl j (by simpa [idsOf] using hj)
  | .any,_,_,j,hj => by simp [idsOf] at hj
  | .int _ _,_,_,j,hj => by simp [idsOf] at hj
  | .bool _,_,_,j,hj => by simp [idsOf] at hj
  | .str _,_,_,j,hj => by simp [idsOf] at hj
  | .sl _ _,_,_,j,hj => by simp [idsOf] at hj
  | .osl _ _,_,_,j,hj => by simp [idsOf] at hj
  | .nsl _ _ _,_,_,j,hj => by simp [idsOf] at hj
  | .adr _ _,_,_,j,hj => by simp [idsOf] at hj
  | .nils,_,_,j,hj => by simp [idsOf] at hj
  | .nilp,_,_,j,hj => by simp [idsOf] at hj
  | .arr _ _ _,_,_,j,hj => by simp [idsOf] at hj
theorem ids_usedL {E : En} {U : Nat → Bool} {w : World} : ∀ (s : List SV) (v : List Value),RepL E U w s v → ∀ k ∈ idsL s,U k = true
  | [],_,_,j,hj => by simp [idsL] at hj
  | c :: cs,v,h,j,hj => by
    unfold RepL at h
    obtain ⟨u,r,_,h1,h2⟩:=h
    simp only [idsL,List.mem_append] at hj
    rcases hj with hj | hj
    · exact ids_used c u h1 j hj
    · exact ids_usedL cs r h2 j hj
end
end Go.Sx
namespace Go.Sx
open Go.RowKit
end Go.Sx
namespace Go.Sx
open Go.RowKit
end Go.Sx
set_option linter.unusedVariables false
namespace Go.Sx
open Go.RowKit
end Go.Sx
set_option linter.unusedVariables false
namespace Go.Sx
open Go.RowKit
def ilOf : SV → Option (List Int)
  | .sl (.int .i64) l => some l
  | _ => none
theorem ilOf_eq {c : SV} {l : List Int} (h : ilOf c = some l) : c = .sl (.int .i64) l:=by
  unfold ilOf at h
  split at h
  · cases h; rfl
  · cases h
def lsOf : List SV → Option (List (List Int))
  | [] => some []
  | c :: r => match ilOf c,lsOf r with
    | some l,some q => some (l :: q)
    | _,_ => none
theorem lsOf_rep {E : En} {U : Nat → Bool} {w : World} : ∀ {cs : List SV} {ls : List (List Int)} {vs : List Value},lsOf cs = some ls → RepL E U w cs vs →
    vs.length = cs.length ∧ noArr cs = true ∧ ls.length = cs.length ∧ ∀ (i : Nat) (v : Value),vs[i]? = some v → ∃ y : List Int,ls[i]? = some y ∧ DRep E.I w (.sl (.int .i64)) y [v]
  | [],ls,vs,h,hr => by
    cases h
    unfold RepL at hr
    subst hr
    exact ⟨rfl,rfl,rfl,fun i v hv => by simp at hv⟩
  | c :: r,ls,vs,h,hr => by
    simp only [lsOf] at h
    split at h
    · rename_i l q hl hq
      cases h
      unfold RepL at hr
      obtain ⟨v,us,rfl,h1,h2⟩:=hr
      obtain ⟨e1,e2,e3,e4⟩:=lsOf_rep hq h2
      have ec:=ilOf_eq hl
      subst ec
      refine ⟨by simp [e1],?_,by simp [e3],fun i u hu => ?_⟩
      · unfold noArr at *
        rw [List.all_cons,e2]
        rfl
      · cases i with
        | zero =>
          simp only [List.getElem?_cons_zero,Option.some.injEq] at hu
          subst hu
          unfold Rep at h1
          exact ⟨l,by simp,h1⟩
        | succ i =>
          rw [List.getElem?_cons_succ] at hu
          obtain ⟨y,y1,y2⟩:=e4 i u hu
          exact ⟨y,by rw [List.getElem?_cons_succ]; exact y1,y2⟩
    · cases h
def boxLs : Option Ob → Option (List (List Int))
  | some (.box cs) => lsOf cs
  | _ => none
theorem boxLs_some {o : Option Ob} {ls : List (List Int)} (h : boxLs o = some ls) : ∃ cs,o = some (.box cs) ∧ lsOf cs = some ls:=by
  unfold boxLs at h
  split at h
  · exact ⟨_,rfl,h⟩
  · cases h
mutual
def bvw (H : Hp) : SV → SV
  | .bsl k n => match boxLs (H k) with
    | some ls => bif Nat.beq ls.length n then .sl (.sl (.int .i64)) ls else .bsl k n
    | none => .bsl k n
  | .agg cs => .agg (bvwL H cs)
  | s => s
def bvwL (H : Hp) : List SV → List SV
  | [] => []
  | c :: cs => bvw H c :: bvwL H cs
end
mutual
theorem bvw_congr {H H' : Hp} (h : ∀ k,boxLs (H k) = boxLs (H' k)) : ∀ s : SV,bvw H s = bvw H' s
  | .bsl k n => by unfold bvw; rw [h k]
  | .agg cs => by unfold bvw; rw [bvwL_congr h cs]
  | .any => by unfold bvw; rfl
  | .int _ _ => by unfold bvw; rfl
  | .bool _ => by unfold bvw; rfl
  | .str _ => by unfold bvw; rfl
  | .sl _ _ => by unfold bvw; rfl
  | .adr _ _ => by unfold bvw; rfl
  | .ptr _ _ => by unfold bvw; rfl
  | .own _ => by unfold bvw; rfl
  | .oel _ _ _ _ => by unfold bvw; rfl
  | .nils => by unfold bvw; rfl
  | .nilp => by unfold bvw; rfl
  | .tup _ => by unfold bvw; rfl
  | .fn _ _ => by unfold bvw; rfl
  | .mp _ => by unfold bvw; rfl
  | .yld _ => by unfold bvw; rfl
  | .arr _ _ _ => by unfold bvw; rfl
  | .big _ => by unfold bvw; rfl
  | .osl _ _ => by unfold bvw; rfl
  | .nsl _ _ _ => by unfold bvw; rfl
  | .sub _ _ _ _ => by unfold bvw; rfl
theorem bvwL_congr {H H' : Hp} (h : ∀ k,boxLs (H k) = boxLs (H' k)) : ∀ s : List SV,bvwL H s = bvwL H' s
  | [] => rfl
  | c :: cs => by unfold bvwL; rw [bvw_congr h c,bvwL_congr h cs]
end
def Lent (E : En) (H : Hp) (ids : List Nat) (b : Nat) : Prop:=∃ k ls,k ∈ ids ∧ boxLs (H k) = some ls ∧ E.ρ k = b
theorem box_cells {w0 : World} {M : Nat → Prop} {E : En} {U : Nat → Bool} {H : Hp} {w : World} (hs : HSat w0 M E U H w) {k : Nat} {ls : List (List Int)} (h : boxLs (H k) = some ls) :
    U k = true ∧ E.ρ k < w.heap.size ∧ ∃ vs : List Value,vs.length = ls.length ∧ (∀ o v,w.cell? ⟨E.ρ k,o,none⟩ = some v ↔ vs[o]? = some v) ∧ (∀ (i : Nat) (v : Value),vs[i]? = some v → ∃ y : List Int,ls[i]? = some y ∧ DRep E.I w (.sl (.int .i64)) y [v]) ∧ ∀ o,w.frozen? ⟨E.ρ k,o,none⟩ = false:=by
  obtain ⟨cs,hk,hl⟩:=boxLs_some h
  obtain ⟨hU,hob⟩:=hs.ob k _ hk
  have hlt:=hob.lt trivial
  obtain ⟨vs,ty,hh,hr⟩:=hob
  obtain ⟨e1,e2,e3,e4⟩:=lsOf_rep hl hr
  refine ⟨hU,hlt,vs,by rw [e1,e3],fun o v => ?_,e4,fun o => by simp [World.frozen?,hh]⟩
  rw [flatV_plain e2 e1] at hh
  simp only [World.cell?,hh,Option.isSome_none,Bool.false_eq_true,if_false]
  simp
theorem rep_I {E : En} {U : Nat → Bool} {w : World} {J : Nat → Prop} (h1 : ∀ b,E.I b → J b) (s : SV) (v : Value) (h : Rep E U w s v) : Rep { E with I:=J } U w s v :=
  Rep.mono (E:=E) (E':={ E with I:=J }) (U:=U) (U':=U) (w:=w) (w':=w) ⟨fun _ h => h,fun _ _ => rfl,fun _ _ => rfl,h1,fun _ _ => rfl,fun _ _ => rfl⟩ s v h
theorem bvw_bsl {w0 : World} {M : Nat → Prop} {E : En} {U : Nat → Bool} {H : Hp} {w : World} {J : Nat → Prop} {ids : List Nat} (hs : HSat w0 M E U H w) (h1 : ∀ b,E.I b → J b) (h2 : ∀ b,Lent E H ids b → J b) (k n : Nat) (v : Value) (hk : k ∈ ids) (hr : Rep E U w (.bsl k n) v) : Rep { E with I:=J } U w (bvw H (.bsl k n)) v:=by
  unfold bvw
  split
  · rename_i ls hl
    cases hb : Nat.beq ls.length n with
    | false => exact rep_I h1 _ _ hr
    | true =>
      have hb:=Nat.eq_of_beq_eq_true hb
      subst hb
      obtain ⟨hU,hlt,vs,e1,e2,e3,e4⟩:=box_cells hs hl
      unfold Rep at hr
      obtain ⟨_,rfl⟩:=hr
      show Rep _ _ _ (.sl _ _) _
      unfold Rep
      refine ⟨_,rfl,_,_,rfl,Nat.le_refl _,.inr ⟨E.ρ k,0,rfl,h2 _ ⟨k,ls,hk,hl,rfl⟩,fun i d hd => ?_⟩⟩
      have hi : i < vs.length:=by rw [e1]; exact (List.getElem?_eq_some_iff.1 hd).1
      have hv : vs[i]? = some vs[i]:=List.getElem?_eq_getElem hi
      obtain ⟨y,y1,y2⟩:=e3 i _ hv
      have : y = d:=by
        have:=y1.symm.trans hd
        exact Option.some.inj this
      subst this
      refine ⟨[vs[i]],fun j u hu => ?_,DRep.mono h1 (fun _ _ => rfl) _ _ _ y2⟩
      cases j with
      | zero =>
        simp only [List.getElem?_cons_zero,Option.some.injEq] at hu
        subst hu
        rw [show 0 + i * (Ty.sl (Ty.int IntKind.i64)).size + 0 = i by show 0 + i * 1 + 0 = i; omega]
        exact ⟨(e2 i _).2 hv,e4 _⟩
      | succ j => simp at hu
  · exact rep_I h1 _ _ hr
mutual
theorem bvw_rep {w0 : World} {M : Nat → Prop} {E : En} {U : Nat → Bool} {H : Hp} {w : World} {J : Nat → Prop} {ids : List Nat} (hs : HSat w0 M E U H w) (h1 : ∀ b,E.I b → J b) (h2 : ∀ b,Lent E H ids b → J b) : ∀ (s : SV) (v : Value),(∀ k ∈ idsOf s,k ∈ ids) → Rep E U w s v → Rep { E with I:=J } U w (bvw H s) v
  | .bsl k n,v,hk,hr => bvw_bsl hs h1 h2 k n v (hk k (by simp [idsOf])) hr
  | .agg cs,v,hk,hr => by
    unfold bvw
    unfold Rep at hr ⊢
    obtain ⟨vs,e,hl⟩:=hr
    exact ⟨vs,e,bvwL_rep hs h1 h2 cs vs (fun k hk' => hk k (by simpa [idsOf] using hk')) hl⟩
  | .any,v,hk,hr => by unfold bvw; exact rep_I h1 _ _ hr
  | .int _ _,v,hk,hr => by unfold bvw; exact rep_I h1 _ _ hr
  | .bool _,v,hk,hr => by unfold bvw; exact rep_I h1 _ _ hr
  | .str _,v,hk,hr => by unfold bvw; exact rep_I h1 _ _ hr
  | .sl _ _,v,hk,hr => by unfold bvw; exact rep_I h1 _ _ hr
  | .adr _ _,v,hk,hr => by unfold bvw; exact rep_I h1 _ _ hr
  | .ptr _ _,v,hk,hr => by unfold bvw; exact rep_I h1 _ _ hr
  | .own _,v,hk,hr => by unfold bvw; exact rep_I h1 _ _ hr
  | .oel _ _ _ _,v,hk,hr => by unfold bvw; exact rep_I h1 _ _ hr
  | .nils,v,hk,hr => by unfold bvw; exact rep_I h1 _ _ hr
  | .nilp,v,hk,hr => by unfold bvw; exact rep_I h1 _ _ hr
  | .tup _,v,hk,hr => by unfold bvw; exact rep_I h1 _ _ hr
  | .fn _ _,v,hk,hr => by unfold bvw; exact rep_I h1 _ _ hr
  | .mp _,v,hk,hr => by unfold bvw; exact rep_I h1 _ _ hr
  | .yld _,v,hk,hr => by unfold bvw; exact rep_I h1 _ _ hr
  | .arr _ _ _,v,hk,hr => by unfold bvw; exact rep_I h1 _ _ hr
  | .big _,v,hk,hr => by unfold bvw; exact rep_I h1 _ _ hr
  | .osl _ _,v,hk,hr => by unfold bvw; exact rep_I h1 _ _ hr
  | .nsl _ _ _,v,hk,hr => by unfold bvw; exact rep_I h1 _ _ hr
  | .sub _ _ _ _,v,hk,hr => by unfold bvw; exact rep_I h1 _ _ hr
theorem bvwL_rep {w0 : World} {M : Nat → Prop} {E : En} {U : Nat → Bool} {H : Hp} {w : World} {J : Nat → Prop} {ids : List Nat} (hs : HSat w0 M E U H w) (h1 : ∀ b,E.I b → J b) (h2 : ∀ b,Lent E H ids b → J b) : ∀ (s : List SV) (v : List Value),(∀ k ∈ idsL s,k ∈ ids) → RepL E U w s v → RepL { E with I:=J } U w (bvwL H s) v
  | [],_,_,h => by unfold bvwL; unfold RepL at *; exact h
  | c :: cs,v,hk,h => by
    unfold bvwL
    unfold RepL at *
    obtain ⟨u,r,e,h3,h4⟩:=h
    exact ⟨u,r,e,bvw_rep hs h1 h2 c u (fun k hk' => hk k (by simp [idsL,hk'])) h3,bvwL_rep hs h1 h2 cs r (fun k hk' => hk k (by simp [idsL,hk'])) h4⟩
end
def hdIn (bs : List (List (List Int))) (l : List (List Int)) : Bool:=!l.isEmpty && bs.any fun ls => (List.range ls.length).any fun o => l.isPrefixOf (ls.drop o)
mutual
def sepR (bs : List (List (List Int))) : SV → Bool
  | .sl (.int _) _ => true
  | .sl (.sl (.int .i64)) l => !hdIn bs l
  | .tup cs => sepRL bs cs
  | s => isFlat s
def sepRL (bs : List (List (List Int))) : List SV → Bool
  | [] => true
  | c :: cs => sepR bs c && sepRL bs cs
end
theorem il_eq {I J : Nat → Prop} {w : World} {x y : List Int} {v : Value} (hx : DRep I w (.sl (.int .i64)) x [v]) (hy : DRep J w (.sl (.int .i64)) y [v]) : x = y:=by
  obtain ⟨u,e,p,cap,e1,_,h1⟩:=hx
  obtain ⟨u',e',p',cap',e1',_,h1'⟩:=hy
  cases e
  cases e'
  rw [e1] at e1'
  have hl : x.length = y.length:=by injection e1'
  have hp : p = p':=by injection e1'
  subst hp
  rcases h1 with rfl | ⟨b,o,hb,_,h1⟩
  · exact (List.eq_nil_of_length_eq_zero hl.symm).symm
  rcases h1' with rfl | ⟨b',o',hb',_,h1'⟩
  · exact List.eq_nil_of_length_eq_zero hl
  rw [hb] at hb'
  cases hb'
  apply List.ext_getElem?
  intro i
  by_cases hi : i < x.length
  · have hi' : i < y.length:=by omega
    obtain ⟨cs,c1,c2⟩:=h1 i x[i] (List.getElem?_eq_getElem hi)
    obtain ⟨ds,d1,d2⟩:=h1' i y[i] (List.getElem?_eq_getElem hi')
    have c2 : cs = [.int .i64 x[i]]:=c2
    have d2 : ds = [.int .i64 y[i]]:=d2
    subst c2
    subst d2
    have a1:=(c1 0 _ rfl).1
    have a2:=(d1 0 _ rfl).1
    rw [a1] at a2
    have a3 : x[i] = y[i]:=by
      have:=Option.some.inj a2
      injection this
    rw [List.getElem?_eq_getElem hi,List.getElem?_eq_getElem hi',a3]
  · rw [List.getElem?_eq_none (by omega),List.getElem?_eq_none (by omega)]
theorem sep_int {I J L : Nat → Prop} {w : World} {q : IntKind} (hJ : ∀ b,I b → J b ∨ L b) (hL : ∀ b,L b → ∀ o v,w.cell? ⟨b,o,none⟩ = some v → ∃ K,∃ y : List Int,DRep K w (.sl (.int .i64)) y [v]) {x : List Int} {v : Value} (h : DRep I w (.sl (.int q)) x [v]) : DRep J w (.sl (.int q)) x [v]:=by
  obtain ⟨u,e,p,cap,e1,e2,h1⟩:=h
  refine ⟨u,e,p,cap,e1,e2,?_⟩
  rcases h1 with h1 | ⟨b,o,hp,hb,h1⟩
  · exact .inl h1
  · cases x with
    | nil => exact .inl rfl
    | cons a r =>
      refine .inr ⟨b,o,hp,?_,fun i d hd => h1 i d hd⟩
      rcases hJ b hb with hb | hb
      · exact hb
      · obtain ⟨cs,c1,c2⟩:=h1 0 a rfl
        have c2 : cs = [.int q a]:=c2
        subst c2
        obtain ⟨K,y,z,ez,p',cap',e1',_⟩:=hL b hb _ _ (c1 0 _ rfl).1
        cases ez
        cases e1'
theorem sep_list {I J L : Nat → Prop} {w : World} {bs : List (List (List Int))} (hJ : ∀ b,I b → J b ∨ L b) (hL : ∀ b,L b → ∃ K,∃ ls : List (List Int),ls ∈ bs ∧ ∀ (o : Nat) (v : Value),w.cell? ⟨b,o,none⟩ = some v → ∃ y : List Int,ls[o]? = some y ∧ DRep K w (.sl (.int .i64)) y [v]) {l : List (List Int)} (hd : hdIn bs l = false) {v : Value} (h : DRep I w (.sl (.sl (.int .i64))) l [v]) : DRep J w (.sl (.sl (.int .i64))) l [v]:=by
  have hL' : ∀ b,L b → ∀ o v,w.cell? ⟨b,o,none⟩ = some v → ∃ K,∃ y : List Int,DRep K w (.sl (.int .i64)) y [v]:=fun b hb o v hv => by
    obtain ⟨K,ls,_,h⟩:=hL b hb
    obtain ⟨y,_,h⟩:=h o v hv
    exact ⟨K,y,h⟩
  obtain ⟨u,e,p,cap,e1,e2,h1⟩:=h
  refine ⟨u,e,p,cap,e1,e2,?_⟩
  rcases h1 with h1 | ⟨b,o,hp,hb,h1⟩
  · exact .inl h1
  · cases l with
    | nil => exact .inl rfl
    | cons x r =>
      refine .inr ⟨b,o,hp,?_,fun i d hd => ?_⟩
      · rcases hJ b hb with hb | hb
        · exact hb
        · exfalso
          obtain ⟨K,ls,l1,l2⟩:=hL b hb
          have key : ∀ i (hi : i < (x :: r).length),(ls.drop o)[i]? = some (x :: r)[i]:=fun i hi => by
            obtain ⟨cs,c1,c2⟩:=h1 i _ (List.getElem?_eq_getElem hi)
            have c2':=c2
            obtain ⟨z,ez,_⟩:=c2'
            subst ez
            obtain ⟨y,y1,y2⟩:=l2 _ _ (c1 0 _ rfl).1
            have exy:=il_eq c2 y2
            rw [show o + i * (Ty.sl (Ty.int IntKind.i64)).size + 0 = o + i by show o + i * 1 + 0 = o + i; omega] at y1
            rw [List.getElem?_drop,y1,exy]
          have h0:=key 0 (Nat.succ_pos _)
          rw [List.getElem?_drop] at h0
          have ho : o < ls.length:=by
            have:=(List.getElem?_eq_some_iff.1 h0).1
            omega
          have : hdIn bs (x :: r) = true:=by
            unfold hdIn
            rw [Bool.and_eq_true]
            refine ⟨rfl,?_⟩
            rw [List.any_eq_true]
            refine ⟨ls,l1,?_⟩
            rw [List.any_eq_true]
            exact ⟨o,List.mem_range.2 ho,List.isPrefixOf_iff_prefix.2 (List.prefix_iff_getElem?.2 key)⟩
          rw [this] at hd
          cases hd
      · obtain ⟨cs,c1,c2⟩:=h1 i d hd
        have c2':=c2
        obtain ⟨z,ez,_⟩:=c2'
        subst ez
        exact ⟨[z],c1,sep_int hJ hL' c2⟩
theorem sep_sl {I J L : Nat → Prop} {w : World} {bs : List (List (List Int))} (hJ : ∀ b,I b → J b ∨ L b) (hL : ∀ b,L b → ∃ K,∃ ls : List (List Int),ls ∈ bs ∧ ∀ (o : Nat) (v : Value),w.cell? ⟨b,o,none⟩ = some v → ∃ y : List Int,ls[o]? = some y ∧ DRep K w (.sl (.int .i64)) y [v]) (t : Ty) (l : List t.den) (v : Value) (hb : sepR bs (.sl t l) = true) (hr : Rep (E0 I) noU w (.sl t l) v) : Rep (E0 J) noU w (.sl t l) v:=by
  unfold sepR at hb
  split at hb
  · rename_i q l' heq
    injection heq with h1 h2
    subst h1
    cases h2
    unfold Rep at hr ⊢
    exact sep_int hJ (fun b hb o v hv => by
      obtain ⟨K,ls,_,h⟩:=hL b hb
      obtain ⟨y,_,h⟩:=h o v hv
      exact ⟨K,y,h⟩) hr
  · rename_i l' heq
    injection heq with h1 h2
    subst h1
    cases h2
    unfold Rep at hr ⊢
    exact sep_list hJ hL (by simpa using hb) hr
  · rename_i heq
    cases heq
  · unfold isFlat at hb
    cases hb
theorem sep_flat {I J : Nat → Prop} {w : World} (s : SV) (v : Value) (hb : isFlat s = true) (hr : Rep (E0 I) noU w s v) : Rep (E0 J) noU w s v:=flat_rep s v hb hr
mutual
theorem sepR_rep {I J L : Nat → Prop} {w : World} {bs : List (List (List Int))} (hJ : ∀ b,I b → J b ∨ L b) (hL : ∀ b,L b → ∃ K,∃ ls : List (List Int),ls ∈ bs ∧ ∀ (o : Nat) (v : Value),w.cell? ⟨b,o,none⟩ = some v → ∃ y : List Int,ls[o]? = some y ∧ DRep K w (.sl (.int .i64)) y [v]) : ∀ (s : SV) (v : Value),sepR bs s = true → Rep (E0 I) noU w s v → Rep (E0 J) noU w s v
  | .sl t l,v,hb,hr => sep_sl hJ hL t l v hb hr
  | .tup cs,v,hb,hr => by
    unfold Rep at hr ⊢
    unfold sepR at hb
    obtain ⟨vs,e,hl⟩:=hr
    exact ⟨vs,e,sepRL_rep hJ hL cs vs hb hl⟩
  | .any,v,hb,hr => by unfold sepR at hb; exact sep_flat _ _ hb hr
  | .int _ _,v,hb,hr => by unfold sepR at hb; exact sep_flat _ _ hb hr
  | .bool _,v,hb,hr => by unfold sepR at hb; exact sep_flat _ _ hb hr
  | .str _,v,hb,hr => by unfold sepR at hb; exact sep_flat _ _ hb hr
  | .adr _ _,v,hb,hr => by unfold sepR at hb; exact sep_flat _ _ hb hr
  | .ptr _ _,v,hb,hr => by unfold sepR at hb; exact sep_flat _ _ hb hr
  | .own _,v,hb,hr => by unfold sepR at hb; exact sep_flat _ _ hb hr
  | .oel _ _ _ _,v,hb,hr => by unfold sepR at hb; exact sep_flat _ _ hb hr
  | .nils,v,hb,hr => by unfold sepR at hb; exact sep_flat _ _ hb hr
  | .nilp,v,hb,hr => by unfold sepR at hb; exact sep_flat _ _ hb hr
  | .agg _,v,hb,hr => by unfold sepR at hb; exact sep_flat _ _ hb hr
  | .fn _ _,v,hb,hr => by unfold sepR at hb; exact sep_flat _ _ hb hr
  | .mp _,v,hb,hr => by unfold sepR at hb; exact sep_flat _ _ hb hr
  | .yld _,v,hb,hr => by unfold sepR at hb; exact sep_flat _ _ hb hr
  | .arr _ _ _,v,hb,hr => by unfold sepR at hb; exact sep_flat _ _ hb hr
  | .big _,v,hb,hr => by unfold sepR at hb; exact sep_flat _ _ hb hr
  | .osl _ _,v,hb,hr => by unfold sepR at hb; exact sep_flat _ _ hb hr
  | .nsl _ _ _,v,hb,hr => by unfold sepR at hb; exact sep_flat _ _ hb hr
  | .bsl _ _,v,hb,hr => by unfold sepR at hb; exact sep_flat _ _ hb hr
  | .sub _ _ _ _,v,hb,hr => by unfold sepR at hb; exact sep_flat _ _ hb hr
theorem sepRL_rep {I J L : Nat → Prop} {w : World} {bs : List (List (List Int))} (hJ : ∀ b,I b → J b ∨ L b) (hL : ∀ b,L b → ∃ K,∃ ls : List (List Int),ls ∈ bs ∧ ∀ (o : Nat) (v : Value),w.cell? ⟨b,o,none⟩ = some v → ∃ y : List Int,ls[o]? = some y ∧ DRep K w (.sl (.int .i64)) y [v]) : ∀ (s : List SV) (v : List Value),sepRL bs s = true → RepL (E0 I) noU w s v → RepL (E0 J) noU w s v
  | [],_,_,h => by unfold RepL at *; exact h
  | c :: cs,v,hb,h => by
    unfold sepRL at hb
    simp only [Bool.and_eq_true] at hb
    unfold RepL at *
    obtain ⟨u,r,e,h3,h4⟩:=h
    exact ⟨u,r,e,sepR_rep hJ hL c u hb.1 h3,sepRL_rep hJ hL cs r hb.2 h4⟩
end
def bxLs (H : Hp) (ids : List Nat) : List (List (List Int)):=ids.filterMap fun k => boxLs (H k)
def bxCon {P : Program} (c : PC P) : Con:=fun args H _ => match decL c.ps (bvwL H (vwL H args)) with
  | some x => bif sepR (bxLs H (idsL (vwL H args))) (c.out x) then some { need:=c.pre x,res:=c.out x,upd:=frzUpd H (idsL args) } else none
  | none => none
theorem boxLs_frz (o : Option Ob) : boxLs (frzOb o) = boxLs o:=by
  unfold frzOb
  split <;> rfl
theorem bxOk {P : Program} (c : PC P) : ConOk P c.f (bxCon c):=by
  intro args H base eff he E U w vals hs hr _ hnd
  simp only [bxCon] at he
  split at he <;> try (cases he; done)
  rename_i x hx
  cases hb : sepR (bxLs H (idsL (vwL H args))) (c.out x) with
  | false => rw [hb] at he; cases he
  | true =>
  rw [hb] at he
  cases he
  obtain ⟨E1,hle1,hs1,hfr⟩:=hs.freezeAll (idsL args) E H
  have hv:=vwL_rep (H:=H) hs1 args vals (fun k hk => by simp [hk]) (RepL.mono hle1 _ _ hr)
  have hbx : ∀ k,boxLs ((fun k => if k ∈ idsL args then frzOb (H k) else H k) k) = boxLs (H k):=fun k => by
    dsimp only
    split
    · exact boxLs_frz _
    · rfl
  have hv2:=bvwL_rep (J:=fun b => E1.I b ∨ Lent E1 (fun k => if k ∈ idsL args then frzOb (H k) else H k) (idsL (vwL H args)) b) hs1 (fun _ h => .inl h) (fun _ h => .inr h) (vwL H args) vals (fun _ h => h) hv
  have hcg : bvwL (fun k => if k ∈ idsL args then frzOb (H k) else H k) (vwL H args) = bvwL H (vwL H args):=bvwL_congr hbx _
  rw [hcg] at hv2
  have hargs:=decL_ok (E:={ E1 with I:=fun b => E1.I b ∨ Lent E1 (fun k => if k ∈ idsL args then frzOb (H k) else H k) (idsL (vwL H args)) b }) (E':=E0 (fun b => E1.I b ∨ Lent E1 (fun k => if k ∈ idsL args then frzOb (H k) else H k) (idsL (vwL H args)) b)) (U':=noU) rfl 0 hx hv2
  have hlt : ∀ b,(E1.I b ∨ Lent E1 (fun k => if k ∈ idsL args then frzOb (H k) else H k) (idsL (vwL H args)) b) → b < w.heap.size:=by
    rintro b (h | ⟨k,ls,_,h2,rfl⟩)
    · exact hs1.lt b h
    · exact (box_cells hs1 h2).2.1
  refine (c.ok x hnd _ w vals hlt hargs).mono ?_
  rintro e w' ⟨hdat,v,rfl,hf,I',hI1,hI2,hI3,hrep⟩
  refine ⟨v,rfl,?_⟩
  simp only [apU_nil]
  obtain ⟨h1,h2⟩:=hs1.still hf (I':=fun b => E1.I b ∨ (I' b ∧ w.heap.size ≤ b)) (fun _ h => .inl h) (fun b h => h.elim .inl fun h => .inr h.2) (fun b h => h.elim (fun h => Nat.lt_of_lt_of_le (hs1.lt b h) hf.size) fun h => hI3 b h.1)
  refine ⟨{ E1 with I:=fun b => E1.I b ∨ (I' b ∧ w.heap.size ≤ b) },hle1.trans h1,?_,fun b hb => ?_,?_⟩
  · refine HSat.congr ?_ h2
    funext k
    rw [frzUpd_at]
  · rcases hb with h | h
    · rcases hfr b h with h | h
      · exact .inl h
      · exact .inr (.inl h)
    · exact .inr (.inr h.2)
  · refine data_rep (U:=noU) (E:=E0 (fun b => E1.I b ∨ (I' b ∧ w.heap.size ≤ b))) (E':={ E1 with I:=fun b => E1.I b ∨ (I' b ∧ w.heap.size ≤ b) }) rfl _ _ hdat ?_
    refine sepR_rep (L:=Lent E1 (fun k => if k ∈ idsL args then frzOb (H k) else H k) (idsL (vwL H args))) (bs:=bxLs H (idsL (vwL H args))) (fun b hb => ?_) ?_ _ _ hb hrep
    · rcases hI2 b hb with (h | h) | h
      · exact .inl (.inl h)
      · exact .inr h
      · exact .inl (.inr ⟨hb,h⟩)
    · rintro b ⟨k,ls,k1,k2,rfl⟩
      obtain ⟨_,hlt',vs,e1,e2,e3⟩:=box_cells hs1 k2
      have hw : w'.heap[E1.ρ k]? = w.heap[E1.ρ k]?:=hf.block _ hlt' fun x => x
      refine ⟨E1.I,ls,?_,fun o u hu => ?_⟩
      · unfold bxLs
        rw [List.mem_filterMap]
        exact ⟨k,k1,by rw [← hbx k]; exact k2⟩
      · rw [cell_of_heap hw] at hu
        obtain ⟨y,y1,y2⟩:=e3.1 o u ((e2 o u).1 hu)
        exact ⟨y,y1,DRep.mono (fun _ h => h) (fun b hb => hf.block b (hs1.lt b hb) fun x => x) _ _ _ y2⟩
def GC.box {P : Program} (c : PC P) : GC P:={ f:=c.f,con:=bxCon c,ent:=c.ent,ok:=bxOk c }
end Go.Sx
