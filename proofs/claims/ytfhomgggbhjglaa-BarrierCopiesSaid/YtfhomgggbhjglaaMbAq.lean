/- The law BarrierCopies: from the conditions to the loops. -/
import Derived.Test.YtfhomgggbhjglaaMbAp
namespace Go.MB
open Go Go.Sx Go.Proofs
set_option linter.unusedVariables false
set_option linter.unusedSimpArgs false
noncomputable section
set_option maxRecDepth 100000 in
theorem cps_scr {B:Bs} {E:En} {S:St} {a:Act} {w5:World} {Nm N:Nat} {J K:Nat → Prop} {t c h o p n k:Int} {es:List E4} {vs:List (List Int)} {ps:List Pm} (hs:SatE B E S a w5) (hn:B.n = 111)
    (t2:S.tmps 2 = .ptr 3111 0) (t5:S.tmps 5 = .ptr 6111 0) (t6:S.tmps 6 = .ptr 7111 0) (t7:S.tmps 7 = .int .i64 0) (hb:S.heap 7111 = some (.box (siteM t c h o p n k 701 702 703)))
    (hJ:∀ b,J b → E.I b) (de:DRep J w5 (.sl tEl) es [E.sv 701]) (dv:DRep J w5 (.sl tIs) vs [E.sv 702]) (dp:DRep J w5 (.sl tPm) ps [E.sv 703]) (hJN:∀ b,J b → N ≤ b) (hbN:N ≤ E.ρ 7111) (hm5:MarksAt Nm w5 E.I a.defers) (hN:N ≤ w5.heap.size) (hNm:Nm ≤ w5.heap.size) (hK:∀ b,K b → E.I b) :
    Scr E [3111,6111] Nm K N 111 w5 [(7,.int .i64 0),(6,.adr tSite (t,c,h,o,p,(es,vs,n),ps,k)),(2,.ptr 3111 0),(5,.ptr 6111 0)] a w5:=by
  obtain ⟨_,vals,ty,h1,h2⟩:=hs.heap.ob 7111 _ hb
  have k3:=ex_repL (by rfl) h2
  simp only [List.map_cons,List.map_nil,exV] at k3
  have hlt:=hs.heap.liveLt (k:=7111) ⟨_,hb,trivial⟩
  rw [flatV_plain (by rfl) h2.length] at h1
  have hrow:=heap_row h1 0 10
  rw [List.drop_zero,List.take_of_length_le (by rw [k3]; exact Nat.le_refl _)] at hrow
  let J2:Nat → Prop:=fun b => J b ∨ b = E.ρ 7111
  have up:∀ (ty:Ty) (d:ty.den) (v:List Value),DRep J w5 ty d v → DRep J2 w5 ty d v:=fun ty d v hd => DRep.mono (fun b hb => .inl hb) (fun _ _ => rfl) _ _ _ hd
  have hd:DRep J2 w5 tSite (t,c,h,o,p,(es,vs,n),ps,k) vals:=by
    rw [k3]
    exact ⟨[_],_,rfl,rfl,[_],_,rfl,rfl,[_],_,rfl,rfl,[_],_,rfl,rfl,[_],_,rfl,rfl,[E.sv 701,E.sv 702,.int .i64 n],[E.sv 703,.int .i64 k],rfl,⟨[_],_,rfl,up _ _ _ de,[_],_,rfl,up _ _ _ dv,rfl⟩,[_],_,rfl,up _ _ _ dp,rfl⟩
  have x2:=hs.tmps 2 (by rw [hn]; decide)
  have x5:=hs.tmps 5 (by rw [hn]; decide)
  have x6:=hs.tmps 6 (by rw [hn]; decide)
  have x7:=hs.tmps 7 (by rw [hn]; decide)
  rw [t2] at x2
  rw [t5] at x5
  rw [t6] at x6
  rw [t7] at x7
  unfold Rep at x2 x5 x6 x7
  refine ⟨⟨J2,?_,stOf_sat (us:=[3111,6111]) (by rw [← hn]; exact hs.size) rfl ?_ (fun k o hk => by cases hk) (fun _ _ _ _ hj => by cases hj) (fun _ _ hk => by cases hk) ?_,?_⟩,hN,hNm,fun b hb => hs.heap.lt b (hK b hb),Frm.refl _ _⟩
  · rintro b (hb | rfl)
    · exact hJN b hb
    · exact hbN
  · intro q hq
    simp only [List.mem_cons,List.not_mem_nil,or_false] at hq
    rcases hq with rfl | rfl | rfl | rfl
    · unfold Rep; exact x7
    · unfold Rep; exact ⟨E.ρ 7111,0,vals,x6.2,.inr rfl,hrow,hd⟩
    · unfold Rep; exact ⟨rfl,x2.2⟩
    · unfold Rep; exact ⟨rfl,x5.2⟩
  · rintro b (hb | rfl)
    · exact hs.heap.lt b (hJ b hb)
    · exact hlt
  · refine hm5.keep (fun _ _ => rfl) fun b hdf hb => ?_
    rcases hb with (hb | rfl) | hb
    · exact hJ b hb
    · rw [h1] at hdf; cases hdf
    · exact hK b hb
end
end Go.MB
