/- Closing in: the plain law of TopShut. -/
import Derived.Test.YtdoobpeacbcohaaMxAk
import Derived.Test.YtdoobpeacbcohaaMxAb
import Derived.Test.YtdoobpeacbcohaaMxAa
namespace Go.MR
open Go Go.Sx Go.Proofs
open Go.MP (nearS checkT tT tTs Tb)
set_option linter.unusedVariables false
set_option linter.unusedSimpArgs false
noncomputable section
theorem reD_up {ps:List Int} {bs:List Ban} {g:List (Int × Int)} {l:Nat} {s:List Int}:∀ {d e:Nat},d ≤ e → reD ps bs g d l s = true → reD ps bs g e l s = true:=by
  intro d e h hd
  induction h with
  | refl => exact hd
  | step _ ih => exact reD_mono _ ih
theorem lost_one {a b x y j:Int} (ha:IntKind.i64.wrap a = a) (hb:IntKind.i64.wrap b = b) (hj:j = 0 ∨ j = 1) : ∃ bl:List Bool,bl.length = 2 ∧ (lostG bl [x,y] 0).length ≤ 1 ∧ appS [j] [a,b] [x,y] 0 = appS (lostG bl [x,y] 0) [a,b] [x,y] 0:=by
  rcases hj with rfl | rfl
  · refine ⟨[true,false],rfl,?_⟩
    by_cases c:x = 0
    · subst c
      have e:lostG [true,false] [0,y] 0 = []:=rfl
      rw [e]
      refine ⟨by decide,?_⟩
      show a :: _ = IntKind.i64.wrap (a + 0) :: _
      rw [Int.add_zero,ha]
      rfl
    · have e:lostG [true,false] [x,y] 0 = [0]:=by
        have c' : (x != 0) = true:=by simp [c]
        show (if (true && (x != 0)) = true then (0:Int) :: [] else []) = [0]
        rw [c']; rfl
      rw [e]
      exact ⟨by decide,rfl⟩
  · refine ⟨[false,true],rfl,?_⟩
    by_cases c:y = 0
    · subst c
      have e:lostG [false,true] [x,0] 0 = []:=rfl
      rw [e]
      refine ⟨by decide,?_⟩
      show _ :: b :: [] = _ :: IntKind.i64.wrap (b + 0) :: []
      rw [Int.add_zero,hb]
      rfl
    · have e:lostG [false,true] [x,y] 0 = [1]:=by
        have c' : (y != 0) = true:=by simp [c]
        show (if (true && (y != 0)) = true then (0 + 1:Int) :: [] else []) = [1]
        rw [c']; rfl
      rw [e]
      exact ⟨by decide,rfl⟩
theorem two_of {l:List Int} (h:l.length = 2) : ∃ x y,l = [x,y]:=by
  match l,h with
  | [x,y],_ => exact ⟨x,y,rfl⟩
theorem rndT {r:Rig} {g:List (Int × Int)} {s:List Int} {left:Nat} {L:List Int} (hs:Sf r s) (h2:r.1.length = 2) (hg:goalS r g = 0) (hl:left ≤ 1) {d:Nat} (hd:d < 64) (hre:reD r.1 r.2 g (d + 1) left s = true) (hno:inG s g = false)
    (hL:L = [] ∨ (left = 1 ∧ ∃ j:Int,(j = 0 ∨ j = 1) ∧ L = [j])) :
    (nextS r s g left).2 = 0 ∧ (nextS r s g left).1.length = 2 ∧ stepS r s (nextS r s g left).1 L = (appS L s (nextS r s g left).1 0,0) ∧ Sf r (appS L s (nextS r s g left).1 0) ∧ reD r.1 r.2 g d (if L = [] then left else 0) (appS L s (nextS r s g left).1 0) = true:=by
  have hr:=rg_of hs
  have hv:=(tick_le (ps:=r.1) (bs:=r.2) (g:=g) (l:=left) (s:=s) (d:=d + 1) (by omega)).2 hre
  have hz:tickD r.1 r.2 g left s ≠ 0:=fun e => by
    have:=tick_zero e
    rw [this] at hno; cases hno
  obtain ⟨v,ht⟩ : ∃ v:Nat,tickD r.1 r.2 g left s = ((v + 1:Nat):Int):=⟨(tickD r.1 r.2 g left s - 1).toNat,by omega⟩
  have hnx:=nextS_of (fun g h => (goalS_ok h).1) hg (l:=left) (by omega) hs
  rw [ht,if_neg (by omega),if_neg (by omega),show ((v + 1:Nat):Int) - 1 = (v:Int) by omega] at hnx
  obtain ⟨b1,b2,b3⟩:=best_ok hr (g:=g) (l:=left) (by omega) hs.vs (d:=v) (by omega) ht
  have e2:(nextS r s g left).2 = 0:=by rw [hnx]
  have e1:(nextS r s g left).1 = bestS r.1 r.2 (cntTk r.1 r.2 g left) s left v:=by rw [hnx]
  rw [← e1] at b1 b2 b3
  clear hnx e1
  generalize hN:nextS r s g left = N at *
  obtain ⟨m,e⟩:=N
  dsimp only at *
  have sl:=hs.vs.sl
  have ml:m.length = r.1.length:=(allM_len b1).trans sl
  have hM:=allM_is b1
  have hvd:v ≤ d:=by omega
  have hLb:∀ x ∈ L,0 ≤ x ∧ x < (r.1.length:Int):=fun x hx => by
    rcases hL with rfl | ⟨_,j,hj,rfl⟩
    · cases hx
    · rw [List.mem_singleton.1 hx]; omega
  obtain ⟨t1,t2,t3⟩:=stepS_eq (lost:=L) hs ml hM b2 hLb
  have hsf:=after_ok hs ml hM b2 t2 (fun i hi => by
    rw [t3 i hi]
    split
    · exact .inr rfl
    · exact .inl rfl)
  refine ⟨e2,by omega,t1,hsf,?_⟩
  have sm:=small_of hs.pb hs.vs.sl hs.vs.si hM
  rcases hL with rfl | ⟨rfl,j,hj,rfl⟩
  · rw [if_pos rfl]
    have hn:=lost_next (i:=0) (l:=left) (bl:=List.replicate m.length false) (s:=s) (m:=m) (by omega) (List.length_replicate) sm (by
      obtain ⟨x,y,rfl⟩:=two_of (ml.trans h2)
      exact Nat.zero_le _)
    have e0:lostG (List.replicate m.length false) m 0 = []:=by
      obtain ⟨x,y,rfl⟩:=two_of (ml.trans h2)
      rfl
    rw [e0] at hn
    exact reD_up hvd (b3 _ hn)
  · rw [if_neg (by simp)]
    have g0:=hs.vs.get (i:=0) (by omega)
    have g1:=hs.vs.get (i:=1) (by omega)
    have p0:=place_ne hs.pb (i:=0) (by omega)
    have p1:=place_ne hs.pb (i:=1) (by omega)
    clear hs hr hre hz ht hno e2 t1 t2 t3
    obtain ⟨x,y,rfl⟩:=two_of (ml.trans h2)
    obtain ⟨a,b,rfl⟩:=two_of (sl.trans h2)
    have ga:IntKind.i64.wrap a = a:=W_id (by have:(0:Int) ≤ a:=g0.1; omega) (by have:a < r.1.getD 0 0:=g0.2; omega)
    have gb:IntKind.i64.wrap b = b:=W_id (by have:(0:Int) ≤ b:=g1.1; omega) (by have:b < r.1.getD 1 0:=g1.2; omega)
    obtain ⟨bl,c1,c2,c3⟩:=lost_one (x:=x) (y:=y) ga gb hj
    have hn:=lost_next (i:=0) (l:=1) (bl:=bl) (s:=[a,b]) (m:=[x,y]) rfl c1 sm c2
    rw [← c3] at hn
    have h:=reD_up hvd (b3 _ hn)
    dsimp only at h
    rcases Nat.lt_or_eq_of_le c2 with e | e
    · have e0:(lostG bl [x,y] 0).length = 0:=by omega
      rw [e0] at h
      exact reD_less h
    · rw [e] at h
      exact h
def lossT (tick wh left who:Int):List Int:=if tick = wh ∧ left > 0 then [who] else []
def leftT (tick wh left:Int):Int:=if tick = wh ∧ left > 0 then 0 else left
def shR (r:Rig) (g:List (Int × Int)) (wh who:Int):Nat → Int → List Int → Int → List Int
  | 0,_,s,_ => s
  | f + 1,tick,s,left => if s.getD 1 0 = 2 then s else shR r g wh who f (tick + 1) (appS (lossT tick wh left who) s (nextS r s g left).1 0) (leftT tick wh left)
def gT:List (Int × Int):=[(0,7),(2,2)]
theorem inG_gT {ps s:List Int} {bs:List Ban} (h:Sf (ps,bs) s) (h8:ps = [8,3]):inG s gT = decide (s.getD 1 0 = 2):=by
  subst h8
  have sl:=h.vs.sl
  have g0:=h.vs.get (i:=0) (show 0 < [(8:Int),3].length by decide)
  match s,sl with
  | [a,b],_ =>
    have g0:0 ≤ a ∧ a < 8:=g0
    show (wi a 0 7 && (wi b 2 2 && inG [] [])) = decide (b = 2)
    unfold wi
    rw [decide_eq_true g0.1,decide_eq_true (show a ≤ 7 by omega),inG_nil,Bool.eq_iff_iff]
    simp
    omega
theorem shR_ok {ps:List Int} {bs:List Ban} (h8:ps = [8,3]) (hg:goalS (ps,bs) gT = 0) {wh who:Int} (hw:who = 0 ∨ who = 1):∀ (f:Nat) (tick:Int) (s:List Int) (left:Int),f ≤ 64 → (left = 0 ∨ left = 1) → Sf (ps,bs) s → reD ps bs gT f left.toNat s = true →
    Sf (ps,bs) (shR (ps,bs) gT wh who f tick s left) ∧ (shR (ps,bs) gT wh who f tick s left).getD 1 0 = 2
  | 0,tick,s,left,_,_,hs,hre => by
    rw [reD,Bool.and_eq_true] at hre
    have:=hre.2
    rw [inG_gT hs h8] at this
    exact ⟨hs,of_decide_eq_true this⟩
  | f + 1,tick,s,left,hf,hl,hs,hre => by
    rw [shR]
    by_cases c:s.getD 1 0 = 2
    · rw [if_pos c]; exact ⟨hs,c⟩
    · rw [if_neg c]
      have hno:inG s gT = false:=by rw [inG_gT hs h8]; exact decide_eq_false c
      obtain ⟨l,hl'⟩ : ∃ l:Nat,left = l:=⟨left.toNat,by omega⟩
      subst hl'
      rw [Int.toNat_natCast] at hre
      obtain ⟨_,_,_,q4,q5⟩:=rndT (L:=lossT tick wh l who) hs (by rw [h8]; rfl) hg (by omega) (d:=f) (by omega) hre hno (by
        unfold lossT
        by_cases c2:tick = wh ∧ (l:Int) > 0
        · rw [if_pos c2]; exact .inr ⟨by omega,who,hw,rfl⟩
        · rw [if_neg c2]; exact .inl rfl)
      refine shR_ok h8 hg hw f (tick + 1) _ (leftT tick wh l) (by omega) ?_ q4 ?_
      · unfold leftT; split
        · exact .inl rfl
        · exact hl
      · unfold leftT lossT at *
        by_cases c2:tick = wh ∧ (l:Int) > 0
        · rw [if_pos c2] at q5 ⊢
          rw [if_neg (by simp)] at q5
          rw [if_pos c2]
          exact q5
        · rw [if_neg c2] at q5 ⊢
          rw [if_pos rfl] at q5
          rw [if_neg c2,Int.toNat_natCast]
          exact q5
def bnT (f st nr:Int) (l:List Tb):List Ban:=shearS (f,st,nr) l 0 8 1 (2,2)
theorem bnT_mem {f st nr:Int} {l:List Tb} (h:ramE (f,st,nr) l 0 8 1 (2,2) = 0):∀ b ∈ bnT f st nr l,∃ a c,b = (0,a,c,1,2,2) ∧ 0 ≤ a ∧ a ≤ c ∧ c < 8:=by
  intro b hb
  unfold bnT shearS at hb
  rw [if_neg (fun n => n h)] at hb
  rcases shP_mem _ 0 (-1) [] (by decide) (fun x => by omega) b hb with h1 | ⟨a,c,h1,h2,h3,h4,_⟩
  · cases h1
  · exact ⟨a,c,h1,h2,h3,h4⟩
theorem bnT_check {f st nr:Int} {l:List Tb} (h:ramE (f,st,nr) l 0 8 1 (2,2) = 0):checkS ([8,3],bnT f st nr l) = 0:=by
  have hm:=bnT_mem h
  have hlen:(bnT f st nr l).length ≤ 9:=by
    unfold bnT shearS
    rw [if_neg (fun n => n h)]
    exact shP_len _ 0 (-1) []
  generalize bnT f st nr l = bs at *
  have hE:∀ bs:List Ban,(∀ b ∈ bs,∃ a c,b = (0,a,c,1,2,2) ∧ 0 ≤ a ∧ a ≤ c ∧ c < 8) → banEs [8,3] bs = 0:=by
    intro bs
    induction bs with
    | nil => intro _; rfl
    | cons b bs ih =>
      intro hb
      obtain ⟨a,c,rfl,h1,h2,h3⟩:=hb b List.mem_cons_self
      have e:banE [8,3] (0,a,c,1,2,2) = 0:=by
        unfold banE
        rw [if_neg (by simp),if_neg]
        show ¬ (a < 0 ∨ a > c ∨ c ≥ 8 ∨ (2:Int) < 0 ∨ (2:Int) > 2 ∨ (2:Int) ≥ 3)
        omega
      rw [banEs,e,if_neg (by simp)]
      exact ih fun b hb' => hb b (List.mem_cons_of_mem _ hb')
  unfold checkS
  rw [if_neg (by simp),if_neg (by simp),if_neg (show ¬ [(8:Int),3].any badP = true by decide),if_neg (by show ¬ (bs.length:Int) > 24; omega)]
  exact hE bs hm
theorem bnT_goal {f st nr:Int} {l:List Tb} (h:ramE (f,st,nr) l 0 8 1 (2,2) = 0):goalS ([8,3],bnT f st nr l) gT = 0:=by
  unfold goalS
  rw [bnT_check h,if_neg (by simp),if_neg (by simp [gT]),if_neg (show ¬ spansE [8,3] gT = true by decide)]
theorem bnT_any {f st nr:Int} {l:List Tb} (h:ramE (f,st,nr) l 0 8 1 (2,2) = 0) {a b:Int}:safeS [8,3] (bnT f st nr l) [a,b] = true ↔ ∀ x ∈ bnT f st nr l,banS (stillS [a,b]) x = false:=by
  unfold safeS
  rw [ixS_neg]
theorem bnT_open {f st nr:Int} {l:List Tb} (h:ramE (f,st,nr) l 0 8 1 (2,2) = 0) {a:Int} (h0:0 ≤ a) (h1:a < 8):Sf ([8,3],bnT f st nr l) [a,0]:=by
  refine ⟨bnT_check h,⟨rfl,?_⟩,(bnT_any h).2 fun x hx => ?_⟩
  · show (decide (0 ≤ a) && decide (a < 8) && inR [0] [3]) = true
    rw [decide_eq_true h0,decide_eq_true h1]; rfl
  · obtain ⟨p,q,rfl,_⟩:=bnT_mem h x hx
    show (meetS (a,a) p q && meetS (0,0) 2 2) = false
    rw [show meetS (0,0) 2 2 = false from rfl,Bool.and_false]
theorem bnT_far {f st nr:Int} {l:List Tb} (h:ramE (f,st,nr) l 0 8 1 (2,2) = 0) {a:Int} (hs:Sf ([8,3],bnT f st nr l) [a,2]):nrS f st nr l a = false:=by
  have g0:0 ≤ a ∧ a < 8:=hs.vs.get (i:=0) (show 0 < [(8:Int),3].length by decide)
  have hsf:=(bnT_any h).1 hs.sf
  cases c:nrS f st nr l a with
  | false => rfl
  | true =>
    obtain ⟨p,q,h1,h2,h3⟩:=shP_all (nr:=nrS f st nr l) (mk:=mkB 0 1 2 2) (n:=8) (8 + 1:Int).toNat 0 (-1) [] (by decide) (by decide) (fun x => by omega) a g0.2 c (.inl g0.1)
    have hm:mkB 0 1 2 2 p q ∈ bnT f st nr l:=by
      unfold bnT shearS
      rw [if_neg (fun n => n h)]
      exact h1
    have:=hsf _ hm
    have e:banS (stillS [a,2]) (mkB 0 1 2 2 p q) = (meetS (a,a) p q && meetS (2,2) 2 2):=rfl
    rw [e,show meetS (2,2) 2 2 = true from rfl,Bool.and_true] at this
    unfold meetS at this
    have e3:wi a p q = true:=by unfold wi; rw [decide_eq_true h2,decide_eq_true h3]; rfl
    revert this
    simp [e3]
end
end Go.MR
