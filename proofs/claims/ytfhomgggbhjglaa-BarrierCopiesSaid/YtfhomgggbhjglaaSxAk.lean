/- Code in parts: what a part leaves is taken up by hand. -/
import Derived.Test.YtfhomgggbhjglaaSxAj
namespace Go.Sx
open Go.RowKit
theorem lex_opsK {P : Program} {cx : List (GC P)} {B : Bs} {ops : Array Oper} {r0 : Option Nat} {Q : Exit → Act → World → Prop} {l : List Oper} {S S' : St} {r : List Rec} {rest : List Nat} (h : Lex cx B.n ops l S r S') :
    ∀ (s : Nat),(∀ j o,l[j]? = some o → ops[s + j]? = some o) → ∀ (a : Act) (w : World),Sat B S a w → (∀ a w,Sat B S' a w → wpOpsIn (FR r0) 0 P ops Q rest a w) → wpOpsIn (FR r0) 0 P ops Q (List.range' s l.length ++ rest) a w:=by
  induction h with
  | nil S => intro s _ a w hs hq; exact hq a w hs
  | @ran o l S S' eff ids r cx' hw hst hn _ ih =>
    intro s hl a w hs hq
    have h0 : ops[s]? = some o:=by simpa using hl 0 o rfl
    obtain ⟨E,hsE⟩:=hs
    simp only [List.length_cons,List.range'_succ,List.cons_append,wpOpsIn,h0]
    rw [wantedS_ok hsE hw,if_pos rfl]
    have hd : ∀ c,o.op ≠ .defer c:=by
      unfold stepOf at hst
      simp only at hst
      split at hst <;> try (cases hst; done)
      rename_i hsem
      exact sem_defer hsem
    refine wpIn_of_does hd ((step_ok hsE hst hn).mono fun v w' h' => ?_)
    exact ih (s + 1) (fun j o' ho' => by have:=hl (j + 1) o' (by simpa using ho'); simpa [Nat.add_assoc,Nat.add_comm 1 j] using this) _ _ h' hq
  | @skip o l S S' r hw _ ih =>
    intro s hl a w hs hq
    have h0 : ops[s]? = some o:=by simpa using hl 0 o rfl
    obtain ⟨E,hsE⟩:=hs
    simp only [List.length_cons,List.range'_succ,List.cons_append,wpOpsIn,h0]
    rw [wantedS_ok hsE hw]
    simp only [Bool.false_eq_true,if_false]
    refine ⟨fun f hf => trivial,?_⟩
    exact ih (s + 1) (fun j o' ho' => by have:=hl (j + 1) o' (by simpa using ho'); simpa [Nat.add_assoc,Nat.add_comm 1 j] using this) _ _ (skip_ok ⟨E,hsE⟩ _) hq
def cut1 : Nat → Code → Code
  | n + 1,.seq a b => .seq a (cut1 n b)
  | _,_ => .skip
def cut2 : Nat → Code → Code
  | n + 1,.seq _ b => cut2 n b
  | _,c => c
theorem execCut {β : Type} {P : Program} (hm : P.follows .mixedOrders = true) {cx : List (GC P)} {lp : Nat → Option LRun} {ys : List YH} {r0 : Option Nat} {u0 : Nat → Bool} {B : Bs} (hu : ∀ k,B.U0 k = true → u0 k = true) (hy : ∀ h ∈ ys,YHOk P h B.E0 B.U0 B.w0) {Q : β → Prop} :
    ∀ (n : Nat) (c : Code) (cur : Nat) (S : St) (K : Kn) (k : Exit → St → Kn → Tree β) (Q' : Exit → Act → World → Prop),LoopsOk P ys B.n r0 u0 lp cur (cut1 n c) → kInv B.n S K → (execC cx lp ys B.n cur (cut1 n c) S K k).holds Q →
    (∀ e S' K' a w,kInv B.n S' K' → Sat B S' a w → (k e S' K').holds Q → Exit.then ((cut2 n c).wpIn (FR r0) 0 P Q') Q' e a w) → ∀ a w,Sat B S a w → c.wpIn (FR r0) 0 P Q' a w:=by
  intro n
  induction n with
  | zero =>
    intro c cur S K k Q' _ hK h hq a w hs
    have h' : (k .normal S K).holds Q:=by
      cases c <;> exact h
    have:=hq .normal S K a w hK hs h'
    cases c <;> exact this
  | succ n ih =>
    intro c cur S K k Q' hl hK h hq a w hs
    cases c with
    | seq x y =>
      refine wpIn_seq (execC_ok hm hu hy x cur S K _ _ hl.1 hK h ?_ a w hs)
      intro e S' K' a' w' hK' hs' hk
      cases e with
      | normal => exact ih y cur S' K' k Q' hl.2 hK' hk hq a' w' hs'
      | exit id => exact hq _ S' K' a' w' hK' hs' hk
      | goto l => exact hq _ S' K' a' w' hK' hs' hk
      | ret => exact hq _ S' K' a' w' hK' hs' hk
      | panic ch => exact hq _ S' K' a' w' hK' hs' hk
      | outgrown => exact hq _ S' K' a' w' hK' hs' hk
    | _ =>
      have h' : (k .normal S K).holds Q:=h
      exact hq .normal S K a w hK hs h'
def cFst : Code → Code
  | .seq a _ => a
  | c => c
def cSnd : Code → Code
  | .seq _ b => b
  | c => c
def cIn : Code → Code
  | .block _ b => b
  | .loop b => b
  | c => c
def stOf (ts : List (Nat × SV)) (hs : List (Nat × Option Ob)) (us : List Nat) : St:=⟨fun t => match ts.find? fun p => Nat.beq p.1 t with
  | some p => p.2
  | none => .any,apH (fun _ => none) hs,apU noU us⟩
def obsS {β : Type} (k : SV → Tree β) : SV → Tree β
  | .ptr a b => k (.ptr a b)
  | .int a b => k (.int a b)
  | .bool b => k (.bool b)
  | .own a => k (.own a)
  | .sl a b => k (.sl a b)
  | .adr a b => k (.adr a b)
  | .agg a => k (.agg a)
  | .tup a => k (.tup a)
  | .fn a b => k (.fn a b)
  | .nils => k .nils
  | .any => k .any
  | _ => .fail 51
def obsL {β : Type} : List SV → (List SV → Tree β) → Tree β
  | [],k => k []
  | c :: r,k => obsS (fun s => obsL r fun q => k (s :: q)) c
def obsH {β : Type} (S : St) : List Nat → (List (Option Ob) → Tree β) → Tree β
  | [],k => k []
  | t :: r,k => match S.heap t with
    | some (.box a) => obsL a fun a => obsH S r fun q => k (some (.box a) :: q)
    | some (.row a b c) => obsH S r fun q => k (some (.row a b c) :: q)
    | some (.frz b c) => obsH S r fun q => k (some (.frz b c) :: q)
    | some (.hole a b c d) => obsH S r fun q => k (some (.hole a b c d) :: q)
    | none => obsH S r fun q => k (none :: q)
    | _ => .fail 52
def obsU {β : Type} (S : St) : List Nat → (List Bool → Tree β) → Tree β
  | [],k => k []
  | t :: r,k => match S.used t with
    | true => obsU S r fun q => k (true :: q)
    | false => obsU S r fun q => k (false :: q)
def obs (ts ks us : List Nat) (e : Exit) (S : St) : Tree (Exit × List SV × List (Option Ob) × List Bool):=obsL (ts.map S.tmps) fun a => obsH S ks fun b => obsU S us fun c => .leaf (e,a,b,c)
def MarksAt (N : Nat) (w : World) (I : Nat → Prop) (l : List Deferred) : Prop:=∃ ds : List Nat,l = ds.map mark ∧ ds.Nodup ∧ ∀ d ∈ ds,N ≤ d ∧ ¬ I d ∧ w.heap[d]? = some (.deferred (some []))
theorem MarksAt.nil (N : Nat) (w : World) (I : Nat → Prop) : MarksAt N w I []:=⟨[],rfl,List.nodup_nil,fun d hd => by cases hd⟩
theorem MarksAt.step {N : Nat} {B : Bs} {E : En} {S : St} {a : Act} {w : World} (hs : SatE B E S a w) (hN : N ≤ B.w0.heap.size) (h0 : MarksAt N B.w0 B.E0.I B.D) (hM : ∀ b,B.M b → B.w0.heap[b]? ≠ some (.deferred (some []))) : MarksAt N w E.I a.defers:=by
  obtain ⟨ds,e1,n1,h1⟩:=h0
  obtain ⟨es,e2,n2,h2⟩:=hs.defers
  have old : ∀ d ∈ ds,d < B.w0.heap.size:=fun d hd => (Array.getElem?_eq_some_iff.1 (h1 d hd).2.2).1
  refine ⟨es ++ ds,by rw [e2,e1,List.map_append],List.nodup_append.2 ⟨n2,n1,fun x hx y hy e => ?_⟩,fun d hd => ?_⟩
  · subst e
    have:=(h2 x hx).2.2
    have:=old x hy
    omega
  · rcases List.mem_append.1 hd with hd | hd
    · obtain ⟨a1,a2,a3⟩:=h2 d hd
      exact ⟨Nat.le_trans hN a3,a1,a2⟩
    · obtain ⟨a0,a1,a2⟩:=h1 d hd
      have nM : ¬ B.M d:=fun h => hM d h a2
      refine ⟨a0,fun hI => ?_,by rw [hs.heap.frame.block d (old d hd) nM]; exact a2⟩
      rcases hs.fresh d hI with h | h | h
      · exact a1 h
      · exact nM h
      · have:=old d hd; omega
theorem MarksAt.keep {N : Nat} {w w' : World} {I I' : Nat → Prop} {l : List Deferred} (h : MarksAt N w I l) (hw : ∀ b : Nat,w.heap[b]? = some (.deferred (some [])) → w'.heap[b]? = w.heap[b]?) (hI : ∀ b : Nat,w.heap[b]? = some (.deferred (some [])) → I' b → I b) : MarksAt N w' I' l:=by
  obtain ⟨ds,e,n,h⟩:=h
  refine ⟨ds,e,n,fun d hd => ?_⟩
  obtain ⟨a0,a1,a2⟩:=h d hd
  exact ⟨a0,fun h => a1 (hI d a2 h),by rw [hw d a2]; exact a2⟩
def bare (w : World) (U : Nat → Bool) (n : Nat) (D : List Deferred) : Bs:=⟨{ w with heap:=#[] },fun _ => True,E0 fun _ => False,noU,n,D⟩
theorem SatE.bare {B : Bs} {E : En} {S : St} {a : Act} {w : World} (h : SatE B E S a w) : SatE (Go.Sx.bare w S.used B.n a.defers) E S a w:=by
  refine ⟨h.size,Marked.refl _ _ _ _,h.tmps,⟨h.heap.ob,h.heap.inj,h.heap.imm,h.heap.lt,fun k _ => .inl trivial,⟨rfl,rfl,rfl,Nat.zero_le _,Nat.le_refl _,fun b hb => absurd hb (Nat.not_lt_zero _)⟩⟩,⟨fun k (hk : noU k = true) => (nomatch hk),fun k (hk : noU k = true) => (nomatch hk),fun k (hk : noU k = true) => (nomatch hk),fun b (hb : False) => hb.elim,fun b (hb : False) => hb.elim,fun k (hk : noU k = true) => (nomatch hk)⟩,fun b _ => .inr (.inl trivial)⟩
theorem leaves_of {P : Program} {fn : Func} {B : Bs} {E : En} {S : St} {a : Act} {w : World} {ss : List SV} {N : Nat} {R : Ending → World → Prop} (hs : SatE B E S a w) (hm : MarksAt N w E.I a.defers) (hr : resL P B.n S fn.results.toList = some ss)
    (h : ∀ v w',w'.os = w.os → w'.tape = w.tape → w'.output = w.output → w'.drawn = w.drawn → w'.heap.size = w.heap.size → (∀ b,(N ≤ b → w.heap[b]? ≠ some (.deferred (some []))) → w'.heap[b]? = w.heap[b]?) →
      HSat { w with heap:=#[] } (fun _ => True) E S.used S.heap w' → Rep E S.used w' (resSV ss) v → R (.returned v) w') :
    LeavesInM (FR none) 0 P fn a.tmps R a.defers .returning w:=by
  obtain ⟨ds,hds,hnd,hd⟩:=hm
  have hb:=hs.bare
  have hsh:=SatE.shut (B:=Go.Sx.bare w S.used B.n a.defers) ds hnd w hb (fun d hd' => ⟨(hd d hd').2.1,(hd d hd').2.2,Nat.zero_le _⟩)
  rw [hds]
  refine leaves_marks ds hnd w (fun d hm => (hd d hm).2.2) ?_
  obtain ⟨v,hrun,hrep⟩:=results_ok (fn:=fn) hsh hr
  have key : ∀ (ds : List Nat) (w : World),(ds.foldl (fun w d => w.putObj d (.deferred none)) w).os = w.os ∧ (ds.foldl (fun w d => w.putObj d (.deferred none)) w).tape = w.tape ∧ (ds.foldl (fun w d => w.putObj d (.deferred none)) w).output = w.output ∧ (ds.foldl (fun w d => w.putObj d (.deferred none)) w).drawn = w.drawn ∧ (ds.foldl (fun w d => w.putObj d (.deferred none)) w).heap.size = w.heap.size ∧ ∀ b,b ∉ ds → (ds.foldl (fun w d => w.putObj d (.deferred none)) w).heap[b]? = w.heap[b]?:=by
    intro ds
    induction ds with
    | nil => intro w; exact ⟨rfl,rfl,rfl,rfl,rfl,fun _ _ => rfl⟩
    | cons d ds ih =>
      intro w
      obtain ⟨h1,h2,h3,h4,h5,h6⟩:=ih (w.putObj d (.deferred none))
      refine ⟨h1,h2,h3,h4,by rw [List.foldl_cons,h5,World.putObj_size],fun b hb => ?_⟩
      rw [List.foldl_cons,h6 b (fun h => hb (List.mem_cons_of_mem _ h)),World.putObj_heap_other (fun e => hb (by rw [e]; exact List.mem_cons_self))]
  obtain ⟨h1,h2,h3,h4,h5,h6⟩:=key ds w
  refine ⟨v,hrun,h v _ h1 h2 h3 h4 h5 (fun b hb => h6 b fun hin => hb (hd b hin).1 (hd b hin).2.2) hsh.heap hrep⟩
end Go.Sx
