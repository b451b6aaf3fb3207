/- slices.Insert of one permit: its contract; the entry that gives a permit. -/
import Derived.Test.YtfhomgggbhjglaaGreatMuT
namespace Go.MB
open Go Go.Sx Go.Proofs Go.RowKit
set_option linter.unusedVariables false
set_option linter.unusedSimpArgs false
noncomputable section
def insCon:Con:=fun args H base=>match args with
 | [.own k,.int .i64 i,.own kv]=>match H k,H kv with
  |some (.row e t l),some (.row e' t' vs)=>if h:((Nat.beq e 49=true/\Nat.beq e' 49=true)/\Nat.beq k kv=false)/\(Ty.beq t tPm=true/\Ty.beq t' tPm=true) then
    some { need:=some (0<=i/\i<l.length/\vs.length=1/\(l.length+1)*32<=140737488355328),res:=.own base,upd:=[(base,some (.row 49 tPm ((show List tPm.den from (Ty.beq_eq h.2.1) ▸ l).take i.toNat++(show List tPm.den from (Ty.beq_eq h.2.2) ▸ vs)++(show List tPm.den from (Ty.beq_eq h.2.1) ▸ l).drop i.toNat))),(k,none)],news:=[base] } else none
  |_,_=>none
 |_=>none
theorem insConOk:ConOk P 162 insCon:=by
 intro args H base eff he E U w vals hs hr hn hnd
 unfold insCon at he
 split at he<;>try (cases he;done)
 rename_i k i kv
 split at he<;>try (cases he;done)
 rename_i e t l e' t' vs hk hkv
 split at he<;>try (cases he;done)
 rename_i hb
 obtain⟨⟨⟨b1,b2⟩,b3⟩,b4,b5⟩:=hb
 have he1:=nbT b1
 have he2:=nbT b2
 have hne:k≠kv:=Nat.ne_of_beq_eq_false b3
 have ht1:=Ty.beq_eq b4
 have ht2:=Ty.beq_eq b5
 subst he1 he2 ht1 ht2
 cases he
 obtain⟨h0,h1,hv1,hbig⟩:0<=i/\i<l.length/\vs.length=1/\(l.length+1)*32<=140737488355328:=hnd
 unfold zD at hr
 obtain⟨v0,r,rfl,hr0,hr⟩:=hr
 unfold zD at hr
 obtain⟨v1,r,rfl,hr1,hr⟩:=hr
 unfold zD at hr
 obtain⟨v2,r,rfl,hr2,hr⟩:=hr
 unfold zD at hr
 subst hr
 unfold Rep at hr0 hr1 hr2
 obtain⟨hUk,rfl,_⟩:=hr0
 subst hr1
 obtain⟨hUv,rfl,_⟩:=hr2
 obtain⟨_,ys,hown,hfl,hsv⟩:=hs.ob k _ hk
 obtain⟨_,zs,hown',hfl',hsv'⟩:=hs.ob kv _ hkv
 replace hown:=hown.plain (by decide)
 replace hown':=hown'.plain (by decide)
 have hown0:=hown
 obtain⟨hyl,hown⟩:=hown
 obtain⟨hzl,hown'⟩:=hown'
 rcases hown with⟨_,hl0⟩ |⟨g,cap,cur,h3,hbg,hg,hnc,hcm,hcs,htake⟩
 ·omega
 rcases hown' with⟨_,hl0⟩ |⟨g',cap',cur',h3',hbg',hg',hnc',hcm',hcs',htake'⟩
 ·omega
 have hgk:g=E.ρ k:=by
  rcases hsv with q |⟨c2,q⟩
  ·rw[q] at h3;cases h3
  ·rw[q] at h3;cases h3;rfl
 have hgv:g'=E.ρ kv:=by
  rcases hsv' with q |⟨c2,q⟩
  ·rw[q] at h3';cases h3'
  ·rw[q] at h3';cases h3';rfl
 subst hgk hgv
 have hlk:Live E H k:=⟨_,hk,by show E.sv k≠_;rw[h3];simp⟩
 have hlv:Live E H kv:=⟨_,hkv,by show E.sv kv≠_;rw[h3'];simp⟩
 have hρ:E.ρ kv≠E.ρ k:=fun q=>hne (hs.inj _ _ hlk hlv q.symm)
 have hid:U base=false:=hn base (by simp)
 have hkb:k≠base:=fun q=>by rw[q,hid] at hUk;cases hUk
 have hImm:=hs.imm k hlk
 obtain⟨j,rfl⟩:∃j:Nat,i=j:=⟨i.toNat,by omega⟩
 have hjn:j<l.length:=by omega
 have hsz:tPm.size=4:=rfl
 rw[hsz] at hcs hcs' hyl hzl htake htake'
 have hys:(cur.toList.drop (j*4)).take ((l.length - j)*4)=ys.drop (j*4):=by
  rw[<- htake,List.drop_take,<- Nat.sub_mul]
 have hzs:cur'.toList.take 4=zs:=by
  rw[<- htake',hv1,Nat.one_mul]
 have hyt:cur.toList.take (j*4)=ys.take (j*4):=by
  rw[<- htake,List.take_take,Nat.min_eq_left (Nat.mul_le_mul_right _ (Nat.le_of_lt hjn))]
 have one1:∀v∈ys.drop (j*4),v.oneCell'=true:=fun v hv=>Flat.one hfl v (List.mem_of_mem_drop hv)
 have one2:∀v∈zs,v.oneCell'=true:=fun v hv=>Flat.one hfl' v hv
 have hflN:Flat E.I w tPm (l.take j++vs++l.drop j) (ys.take (j*4)++zs++ys.drop (j*4)):=by
  have a:=hfl.take j
  have b:=hfl.dropN j
  rw[hsz] at a b
  exact (a.append hfl').append b
 have hll:(l.take j++vs++l.drop j).length=l.length+1:=by
  simp only[List.length_append,List.length_take,List.length_drop];omega
 rw[h3,h3',hv1]
 have hsd:=hs.drop k
 -- what both ways come to
 have key:∀(w' : World)(b:Nat)(G:Nat)(cur2:Array Value),Frm w (Mof E H) w'->w.heap.size<=w'.heap.size->(∀x,x≠E.ρ k->x<w.heap.size->w'.heap[x]? = w.heap[x]?)->(b=E.ρ k\/w.heap.size<=b)->w'.heap[b]? = some (.cells cur2 49 (0,0))->l.length+1<=G->G<=maxLen->cur2.size=G*4 ->
   cur2.toList.take ((l.length+1)*4)=ys.take (j*4)++zs++ys.drop (j*4) ->
   ∃E',En.Le U (apU U [base]) E E' w w'/\HSat w (Mof E H) E' (apU U [base]) (apH H [(base,some (.row 49 tPm (l.take j++vs++l.drop j))),(k,none)]) w'/\FreshI E E' H w/\Rep E' (apU U [base]) w' (.own base) (.slice (some ⟨b,0,none⟩) (l.length+1) G):=by
  intro w' b G cur2 hfr hsz' hblk hbk hb2 hG hGm hG4 hcc
  have hle:=le_setRow (H:=H) hs hid (w':=w') (fun x hx=>hblk x (fun q=>hImm (q ▸ hx)) (hs.lt x hx)) b (.slice (some ⟨b,0,none⟩) (l.length+1) G)
  refine⟨_,hle,?_,fun x hx=>.inl hx,?_⟩
  ·refine HSat.add' hsd hid hfr hsz' rfl hle ?_ ?_ ⟨ys.take (j*4)++zs++ys.drop (j*4),?_,Flat.mono hle.imm hle.heap _ _ _ hflN,.inr ⟨G,by simp only[En.setRow,if_true];rw[hll]⟩⟩
   ·intro x hx
    obtain⟨hxk,hx'⟩:=HSat.dropNe hx
    exact hblk _ (fun q=>hxk (hs.inj x k hx' hlk q)) (hs.liveLt hx')
   ·intro _
    refine⟨fun x hx=>?_,?_,?_⟩
    ·obtain⟨hxk,hx'⟩:=HSat.dropNe hx
     simp only[En.setRow,if_true]
     rcases hbk with q |q
     ·rw[q];exact fun q' =>hxk (hs.inj x k hx' hlk q')
     ·have:=hs.liveLt hx';omega
    ·simp only[En.setRow,if_true]
     rcases hbk with q |q
     ·rw[q];exact hImm
     ·exact fun q' =>by have:=hs.lt _ q';omega
    ·simp only[En.setRow,if_true]
     rcases hbk with q |q
     ·rw[q];exact hs.mine k hlk
     ·exact .inr q
   ·refine ownR_of ⟨hflN.length,.inr ⟨b,G,cur2,by simp only[En.setRow,if_true];rw[hll],Nat.zero_le _,hb2,by rw[hll];exact hG,hGm,hG4,?_⟩⟩
    rw[hll];exact hcc
  ·unfold Rep
   exact⟨by rw[apU1];simp,by simp[En.setRow],_,_,_,rfl⟩
 have hf:=hs.frame
 by_cases hroom:l.length+1<=cap
 ·have hc63:cap<=9223372036854775807:=by unfold maxLen at hcm;omega
  refine (ins_shift (E.ρ k) l.length cap j (E.ρ kv) cap' cur cur' 49 49 w hjn hroom hc63 hρ hg hcs hg' (by omega) (by rw[hys];exact one1) (by rw[hzs];exact one2)).mono ?_
  rintro e w' ⟨rfl,rfl⟩
  refine⟨_,rfl,?_⟩
  rw[hys,hzs,hyt]
  rw[setRow_setRow]
  refine key _ (E.ρ k) cap _ ?_ (by simp) (fun x hx _=>setRow_other w.drew _ _ _ hx) (.inl rfl) (setRow_heap w.drew _ _ _ _ _ hg) hroom hcm ?_ ?_
  ·refine⟨rfl,rfl,rfl,by simp,Nat.le_succ _,fun x hx hm=>setRow_other w.drew _ _ _ fun q=>hm ⟨k,hlk,q.symm⟩⟩
  ·rw[List.size_toArray]
   simp only[List.length_append,List.length_take,List.length_drop,Array.length_toList,hcs,hyl,hzl]
   omega
  ·rw[List.toList_toArray]
   exact List.take_left' (by simp only[List.length_append,List.length_take,List.length_drop,hyl,hzl];omega)
 ·have hg2:cap<l.length+1:=by omega
  refine (ins_grow (E.ρ k) l.length cap j (E.ρ kv) cap' cur cur' 49 49 w hjn hg2 hnc hbig hg hcs hg' (by omega) (by rw[hys];exact one1) (by rw[hzs];exact one2)).mono ?_
  rintro e w' ⟨G,cur2,rfl,q1,q2,q3,q4,q5,q6⟩
  refine⟨_,rfl,?_⟩
  rw[hys,hzs,hyt] at q4
  exact key w' w.heap.size G cur2 (Grows.frm (Frm.refl w _) q6) q6.size (fun x _ hx=>q6.block x hx) (.inr (Nat.le_refl _)) q5 q1 (by unfold maxLen;omega) q3 q4
def c_insB:GC P:={ f:=162,con:=insCon,ent:=by kernel_rfl,ok:=insConOk }
def c_flag:GC P:={ f:=2,con:=fun _ _ _=>none,ent:=by kernel_rfl,ok:=fun _ _ _ _ h=>by cases h }
def L_insA:Lay:={ slots:=[(0,.row 49 tPm),(1,.val tI),(2,.val tPms)] }
theorem T_insA(l:List Pm)(i:Int)(v:List Pm):jF (P:=P) [c_flag] (zI []) Tryz.f162 L_insA true (l,i,v,()) =
 Tree.need (0<=i/\i<=(l.length:Int)) (.cond ((v.length:Int)==0) (.leaf { res:=.own 100,boxes:=[],news:=[.row 49 tPm l] }) (.cond (i==(l.length:Int)) (.need ((l.length+v.length)*32<=140737488355328) (.leaf { res:=.own 100,boxes:=[],news:=[.row 49 tPm (l++v)] })) (Tree.fail 1030))):=by kernel_rfl
def c_insA:MC P:=MC.of (α:=List Pm×Int×List Pm×Unit) 162 L_insA (fun x=>x) (fun x=>x) (fun _=>rfl)
 (fun(l,i,v,_)=>some (i=l.length/\v.length=1/\l.length<=1000))
 (fun(l,_,v,_)=>⟨.own 100,[],[.row 49 tPm (l++v)]⟩) (by kernel_rfl) (by kernel_rfl) (by kernel_rfl) (by
  rintro⟨l,i,v,⟨⟩⟩ hp
  refine m_of hm (own:=true) (by kernel_rfl) (by kernel_rfl) (by kernel_rfl) (T_insA l i v) trivial ?_
  obtain⟨rfl,hv,hl⟩:i=l.length/\v.length=1/\l.length<=1000:=hp
  refine⟨⟨by omega,by omega⟩,⟨fun c1=>?_,fun c1=>⟨fun c2=>⟨by omega,rfl⟩,fun c2=>?_⟩⟩⟩
  ·have c1:(v.length:Int)=0:=eq_of_beq c1
   omega
  ·exact absurd rfl (ne_of_beq_false c2))
def sIns(args:List SV)(H:Hp):Option Bool:=match args with
 | [.own k,.int _ i,_]=>match H k with
  |some (.row _ _ l)=>some (decide (i=l.length))
  |_=>none
 |_=>none
def c_ins:GC P:=GC.split sIns c_insA.gc c_insB (by kernel_rfl)
end
end Go.MB
