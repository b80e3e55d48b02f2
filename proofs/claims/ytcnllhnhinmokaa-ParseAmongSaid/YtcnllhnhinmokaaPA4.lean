/- For every grammar, rule and items, the tree of Parse is one of the ways, if there is no not, and its items are the items (no condition on the arguments): part 5 of 5. -/
import Derived.Test.YtcnllhnhinmokaaPA3
import Derived.Test.YtcnllhnhinmokaaProg
import Derived.Test.YtcnllhnhinmokaaRows
import Derived.WalkKit
import Derived.ProofKit
import Derived.OpenShut
import Derived.ShutString
import Derived.ChangeOld
import Derived.Below
import Derived.SizedLaws
import Derived.Carry
set_option linter.unusedVariables false
set_option linter.unusedSimpArgs false
section
namespace Go.Ev.G24
open Go.RowKit Go.Proofs
variable {G:List Rule} {items:List ByteArray}
mutual
def tIt:Part→List ByteArray
 | ⟨d,t,l⟩=>(if d.data.toList=[105,116,101,109] then [t] else [])++tItL l
def tItL:List Part→List ByteArray
 | []=>[]
 | x::l=>tIt x++tItL l
end
theorem tItL_app:∀a b:List Part,tItL (a++b)=tItL a++tItL b
 | [],b=>by simp [tItL]
 | x::a,b=>by simp only [List.cons_append,tItL,tItL_app a b,List.append_assoc]
theorem tIt_item (s:ByteArray):tIt (itemT s)=[s]:=by
 unfold itemT tIt
 rw [if_pos rfl]
 simp [tItL]
theorem tIt_rule (t:ByteArray) (l:List Part):tIt (ruleT t l)=tItL l:=by
 unfold ruleT tIt
 rw [if_neg (by decide)]
 rfl
theorem tIt_many (l:List Part):tIt (manyT l)=tItL l:=by
 unfold manyT tIt
 rw [if_neg (by decide)]
 rfl
theorem tItL_one (p:Part):tItL [p]=tIt p:=by simp [tItL]
theorem stepP_cases {rc:Task→Option Outc} {d t:ByteArray} {l:List Part} {q:Nat} {o:Outc} {M:Outc→Prop} (h:stepP G items rc d t l q=some o)
  (h1:∀w,M (oneO items w q)) (h2:∀a,rc (.part (bodyOf G t) q)=some a→M (ruleO t a)) (h3:∀a,rc (.seq l q [])=some a→M (plus1 a)) (h4:∀a,rc (.alt l q)=some a→M (plus1 a)) (h5:∀x a,rc (.many x q [])=some a→M (plus1 a)) (h6:∀x a,rc (.part x q)=some a→M (optO q a)) (h7:∀x a,rc (.part x q)=some a→M (notO q a)) (h8:M (some ([],q),1,0)):M o:=by
 have hm:∀{x:Option Outc} {f:Outc→Outc},x.map f=some o→(∀a,x=some a→M (f a))→M o:=by
  intro x f e k
  rw [Option.map_eq_some_iff] at e
  obtain ⟨a,e1,rfl⟩:=e
  exact k a e1
 have hh:∀{f:Part→Task} {g:Outc→Outc},head1 rc f l g=some o→(∀x a,rc (f x)=some a→M (g a))→M o:=by
  intro f g e k
  cases l with
  | nil=>cases e
  | cons x l=>exact hm e (k x)
 unfold stepP at h
 split at h
 ·injection h with h;subst h;exact h1 _
 split at h
 ·injection h with h;subst h;exact h1 _
 split at h
 ·exact hm h h2
 split at h
 ·exact hm h h3
 split at h
 ·exact hm h h4
 split at h
 ·exact hh h h5
 split at h
 ·exact hh h h6
 split at h
 ·exact hh h h7
 injection h with h
 subst h
 exact h8
def Span (items:List ByteArray) (q:Nat) (acc:List Part) (o:Outc):Prop:=match o.1 with
 | some (ks,e)=>∃X,tItL ks=tItL acc++X∧items.take e=items.take q++X
 | none=>True
theorem span_nil {q:Nat} {acc:List Part} {n f:Nat}:Span items q acc (some (acc,q),n,f):=⟨[],by simp,by simp⟩
theorem span_one {q:Nat} {w:Option ByteArray}:Span items q [] (oneO items w q):=by
 unfold oneO
 split
 ·rename_i s hs
  split
  ·refine ⟨[s],by simp [tItL,tIt_item],?_⟩
   have hq:=(List.getElem?_eq_some_iff.1 hs).1
   rw [List.take_add_one,hs]
   rfl
  ·trivial
 ·trivial
theorem span_step {q e:Nat} {acc ks:List Part} {n f:Nat} {o o':Outc} (h1:Span items q [] (some (ks,e),n,f)) (h2:Span items e (acc++ks) o) (ho:o'.1=o.1):Span items q acc o':=by
 unfold Span at h2 ⊢
 rw [ho]
 cases hx:o.1 with
 | none=>trivial
 | some y =>
   obtain ⟨ks',e'⟩:=y
   rw [hx] at h2
   obtain ⟨X,a1,a2⟩:=h1
   obtain ⟨Y,b1,b2⟩:=h2
   refine ⟨X++Y,?_,?_⟩
   ·rw [b1,tItL_app]
    have a1':tItL ks=X:=by simpa [tItL] using a1
    rw [a1',List.append_assoc]
   ·rw [b2,a2,List.append_assoc]
theorem run_span:∀(k:Nat) (t:Task) (o:Outc),run G items k t=some o→Span items (placeT t) (accT t) o
 | 0,t,o,h=>by cases h
 | k+1,t,o,h=>by
   have ih:=run_span k
   match t,h with
   | .part ⟨d,t,l⟩ q,h =>
     show Span items q [] o
     refine stepP_cases (M:=fun o=>Span items q [] o) h (fun w=>span_one) (fun a e => ?_) (fun a e=>ih _ _ e) (fun a e=>ih _ _ e) (fun x a e=>ih _ _ e) (fun x a e => ?_) (fun x a e => ?_) span_nil
     ·have:=ih _ _ e
      change Span items q [] a at this
      obtain ⟨r,n,f⟩:=a
      cases r with
      | none=>trivial
      | some y =>
        obtain ⟨X,h1,h2⟩:=this
        exact ⟨X,by rw [show tItL [ruleT t y.1]=tItL y.1 by rw [tItL_one,tIt_rule]];exact h1,h2⟩
     ·have:=ih _ _ e
      change Span items q [] a at this
      obtain ⟨r,n,f⟩:=a
      cases r with
      | none=>exact ⟨[],rfl,by simp⟩
      | some y=>exact this
     ·obtain ⟨r,n,f⟩:=a
      cases r with
      | none=>exact ⟨[],rfl,by simp⟩
      | some y=>trivial
   | .seq [] q acc,h=>injection h with h;subst h;exact span_nil
   | .seq (x::l) q acc,h =>
     change (run G items k (.part x q)).bind (seqK (run G items k) l acc)=some o at h
     rw [Option.bind_eq_some_iff] at h
     obtain ⟨⟨r,n,f⟩,h1,h2⟩:=h
     have s1:=ih _ _ h1
     change Span items q [] (r,n,f) at s1
     unfold seqK at h2
     cases r with
     | none=>injection h2 with h2;subst h2;trivial
     | some y =>
       obtain ⟨ks,e⟩:=y
       change (run G items k (.seq l e (acc++ks))).map _=some o at h2
       rw [Option.map_eq_some_iff] at h2
       obtain ⟨o2,h3,rfl⟩:=h2
       exact span_step s1 (ih _ _ h3) rfl
   | .alt [] q,h=>injection h with h;subst h;trivial
   | .alt (x::l) q,h =>
     change (run G items k (.part x q)).bind (altK (run G items k) l q)=some o at h
     rw [Option.bind_eq_some_iff] at h
     obtain ⟨⟨r,n,f⟩,h1,h2⟩:=h
     have s1:=ih _ _ h1
     unfold altK at h2
     cases r with
     | some y=>injection h2 with h2;subst h2;exact s1
     | none =>
       change (run G items k (.alt l q)).map _=some o at h2
       rw [Option.map_eq_some_iff] at h2
       obtain ⟨o2,h3,rfl⟩:=h2
       have s3:=ih _ _ h3
       exact s3
   | .many x q acc,h =>
     change (run G items k (.part x q)).bind (manyK (run G items k) x q acc)=some o at h
     rw [Option.bind_eq_some_iff] at h
     obtain ⟨⟨r,n,f⟩,h1,h2⟩:=h
     have s1:=ih _ _ h1
     change Span items q [] (r,n,f) at s1
     unfold manyK at h2
     cases r with
     | none =>
       injection h2 with h2
       subst h2
       exact ⟨[],by rw [tItL_one,tIt_many];simp [accT],by simp [placeT]⟩
     | some y =>
       obtain ⟨ks,e⟩:=y
       change (run G items k (.many x e (acc++ks))).map _=some o at h2
       rw [Option.map_eq_some_iff] at h2
       obtain ⟨o2,h3,rfl⟩:=h2
       exact span_step s1 (ih _ _ h3) rfl
theorem run_items {k:Nat} {p:Part} {o:Outc} {ks:List Part} {e:Nat} (h:run G items k (.part p 0)=some o) (ho:o.1=some (ks,e)) (he:items.length≤e):tItL ks=items:=by
 have:=run_span k _ _ h
 unfold Span at this
 rw [ho] at this
 obtain ⟨X,h1,h2⟩:=this
 rw [List.take_of_length_le he] at h2
 simp only [placeT,List.take_zero,List.nil_append] at h2
 rw [h1,h2]
 simp [accT,tItL]
mutual
def withoutB:Part→Bool
 | ⟨d,t,l⟩ => !decide (d.data.toList=[110,111,116])&&withoutL l
def withoutL:List Part→Bool
 | []=>true
 | x::l=>withoutB x&&withoutL l
end
theorem withoutL_mem:∀{l:List Part},withoutL l=true→∀x∈l,withoutB x=true
 | y::l,h,x,hx=>by
   unfold withoutL at h
   rw [Bool.and_eq_true] at h
   rcases List.mem_cons.1 hx with rfl|hx
   ·exact h.1
   ·exact withoutL_mem h.2 x hx
theorem stepPP_cases {rc:Task→Option Outc} {rc':TaskW→Option OutW} {d t:ByteArray} {l:List Part} {q:Nat} {o:Outc} {o':OutW} {M:Outc→OutW→Prop} (h:stepP G items rc d t l q=some o) (h':stepPW G items rc' d t l q=some o') (hn:¬d.data.toList=[110,111,116])
  (h1:∀w,M (oneO items w q) (oneW items w q)) (h2:∀a b,rc (.part (bodyOf G t) q)=some a→rc' (.part (bodyOf G t) q)=some b→M (ruleO t a) (ruleW t b)) (h3:∀a b,rc (.seq l q [])=some a→rc' (.row l q)=some b→M (plus1 a) (plusW b)) (h4:∀a b,rc (.alt l q)=some a→rc' (.alts l q)=some b→M (plus1 a) (plusW b))
  (h5:∀x∈l,∀a b,rc (.many x q [])=some a→rc' (.again x q)=some b→M (plus1 a) (manyW b)) (h6:∀x∈l,∀a b,rc (.part x q)=some a→rc' (.part x q)=some b→M (optO q a) (optW q b)) (h8:M (some ([],q),1,0) ([([],q)],1,0)):M o o':=by
 have hm:∀{x:Option Outc} {f:Outc→Outc} {x':Option OutW} {f':OutW→OutW},x.map f=some o→x'.map f'=some o'→(∀a b,x=some a→x'=some b→M (f a) (f' b))→M o o':=by
  intro x f x' f' e e' k
  rw [Option.map_eq_some_iff] at e e'
  obtain ⟨a,e1,rfl⟩:=e
  obtain ⟨b,e2,rfl⟩:=e'
  exact k a b e1 e2
 have hh:∀{f:Part→Task} {g:Outc→Outc} {f':Part→TaskW} {g':OutW→OutW},head1 rc f l g=some o→head1W rc' f' l g'=some o'→(∀x∈l,∀a b,rc (f x)=some a→rc' (f' x)=some b→M (g a) (g' b))→M o o':=by
  intro f g f' g' e e' k
  cases l with
  | nil=>cases e
  | cons x l=>exact hm e e' (k x (.head _))
 unfold stepP at h
 unfold stepPW at h'
 by_cases c1:d.data.toList=[105,115]
 ·rw [if_pos c1] at h h'
  injection h with h;subst h
  injection h' with h';subst h'
  exact h1 _
 rw [if_neg c1] at h h'
 by_cases c2:d.data.toList=[97,110,121]
 ·rw [if_pos c2] at h h'
  injection h with h;subst h
  injection h' with h';subst h'
  exact h1 _
 rw [if_neg c2] at h h'
 by_cases c3:d.data.toList=[114,117,108,101]
 ·rw [if_pos c3] at h h';exact hm h h' h2
 rw [if_neg c3] at h h'
 by_cases c4:d.data.toList=[115,101,113]
 ·rw [if_pos c4] at h h';exact hm h h' h3
 rw [if_neg c4] at h h'
 by_cases c5:d.data.toList=[111,114]
 ·rw [if_pos c5] at h h';exact hm h h' h4
 rw [if_neg c5] at h h'
 by_cases c6:d.data.toList=[109,97,110,121]
 ·rw [if_pos c6] at h h';exact hh h h' h5
 rw [if_neg c6] at h h'
 by_cases c7:d.data.toList=[111,112,116]
 ·rw [if_pos c7] at h h';exact hh h h' h6
 rw [if_neg c7,if_neg hn] at h h'
 injection h with h;subst h
 injection h' with h';subst h'
 exact h8
theorem rowH_mem {l:List Part}:∀(hs:List Way) (k:Nat) (o:OutW),runW G items k (.rowH hs l)=some o→∀ks e,(ks,e)∈hs→∃k' b,runW G items k' (.row l e)=some b∧∀r∈b.1,(ks++r.1,r.2)∈o.1
 | [],k,o,h,ks,e,hm=>by simp at hm
 | (ks0,e0)::hs,k,o,h,ks,e,hm=>by
   obtain ⟨k',a,b,_,h1,h2,rfl⟩:=runW_inv (fun rc=>rfl) h
   rcases List.mem_cons.1 hm with hm|hm
   ·injection hm with c1 c2
    subst c1 c2
    refine ⟨k',a,h1,fun r hr => ?_⟩
    simp only [stepH,consW,List.mem_append,List.mem_map]
    exact .inl ⟨r,hr,rfl⟩
   ·obtain ⟨k2,b2,h3,h4⟩:=rowH_mem hs k' b h2 ks e hm
    refine ⟨k2,b2,h3,fun r hr => ?_⟩
    simp only [stepH,List.mem_append]
    exact .inr (h4 r hr)
theorem againH_mem {x:Part}:∀(hs:List Way) (k:Nat) (o:OutW),runW G items k (.againH hs x)=some o→∀ks e,(ks,e)∈hs→∃k' b,runW G items k' (.again x e)=some b∧∀r∈b.1,(ks++r.1,r.2)∈o.1
 | [],k,o,h,ks,e,hm=>by simp at hm
 | (ks0,e0)::hs,k,o,h,ks,e,hm=>by
   obtain ⟨k',a,b,_,h1,h2,rfl⟩:=runW_inv (fun rc=>rfl) h
   rcases List.mem_cons.1 hm with hm|hm
   ·injection hm with c1 c2
    subst c1 c2
    refine ⟨k',a,h1,fun r hr => ?_⟩
    simp only [stepH,consW,List.mem_append,List.mem_map]
    exact .inl ⟨r,hr,rfl⟩
   ·obtain ⟨k2,b2,h3,h4⟩:=againH_mem hs k' b h2 ks e hm
    refine ⟨k2,b2,h3,fun r hr => ?_⟩
    simp only [stepH,List.mem_append]
    exact .inr (h4 r hr)
def noNot:Task→Prop
 | .part p _=>withoutB p=true
 | .seq l _ _=>withoutL l=true
 | .alt l _=>withoutL l=true
 | .many x _ _=>withoutB x=true
def AmongW (G:List Rule) (items:List ByteArray) (o:Outc):Task→Prop
 | .part p q=>∀k' o',runW G items k' (.part p q)=some o'→∀ks e,o.1=some (ks,e)→(ks,e)∈o'.1
 | .seq l q acc=>∀k' o',runW G items k' (.row l q)=some o'→∀ks e,o.1=some (ks,e)→∃X,ks=acc++X∧(X,e)∈o'.1
 | .alt l q=>∀k' o',runW G items k' (.alts l q)=some o'→∀ks e,o.1=some (ks,e)→(ks,e)∈o'.1
 | .many x q acc=>∀k' o',runW G items k' (.again x q)=some o'→∀ks e,o.1=some (ks,e)→∃X,ks=[manyT (acc++X)]∧(X,e)∈o'.1
theorem bodyOf_without (hG:∀x∈G,withoutB x.body=true) (t:ByteArray):withoutB (bodyOf G t)=true:=by
 unfold bodyOf
 split
 ·rename_i x hx
  exact hG x (List.mem_of_getElem? hx)
 ·unfold withoutB withoutL
  rfl
theorem run_among (hG:∀x∈G,withoutB x.body=true):∀(k:Nat) (t:Task) (o:Outc),run G items k t=some o→noNot t→AmongW G items o t
 | 0,t,o,h,_=>by cases h
 | k+1,t,o,h,hn=>by
   have ih:=run_among hG k
   match t,h,hn with
   | .part ⟨d,t,l⟩ q,h,hn =>
     intro k' o' h' ks e ho
     cases k' with
     | zero=>cases h'
     | succ k' =>
     have hn':withoutB ⟨d,t,l⟩=true:=hn
     unfold withoutB at hn'
     rw [Bool.and_eq_true] at hn'
     have hd:¬d.data.toList=[110,111,116]:=by simpa using hn'.1
     have hl:=hn'.2
     refine stepPP_cases (M:=fun o o'=>o.1=some (ks,e)→(ks,e)∈o'.1) h h' hd (fun w hw => ?_) (fun a b e1 e2 hw => ?_) (fun a b e1 e2 hw => ?_) (fun a b e1 e2 hw=>ih _ _ e1 hl _ _ e2 _ _ hw) (fun x hx a b e1 e2 hw => ?_) (fun x hx a b e1 e2 hw => ?_) (fun hw => ?_) ho
     ·unfold oneO at hw
      unfold oneW
      split at hw
      ·rename_i s hs
       split at hw
       ·rename_i hb
        rw [hs]
        simp only [if_pos hb]
        injection hw with hw
        rw [hw]
        simp
       ·cases hw
      ·cases hw
     ·obtain ⟨r,n,f⟩:=a
      cases r with
      | none=>cases hw
      | some y =>
        injection hw with hw
        injection hw with w1 w2
        subst w1 w2
        simp only [ruleW,List.mem_map]
        exact ⟨(y.1,y.2),ih _ _ e1 (bodyOf_without hG t) _ _ e2 y.1 y.2 rfl,rfl⟩
     ·obtain ⟨X,e3,e4⟩:=ih _ _ e1 hl _ _ e2 _ _ hw
      rw [List.nil_append] at e3
      subst e3
      exact e4
     ·obtain ⟨X,e3,e4⟩:=ih _ _ e1 (withoutL_mem hl x hx) _ _ e2 _ _ hw
      rw [List.nil_append] at e3
      subst e3
      simp only [manyW,List.mem_map]
      exact ⟨(X,e),e4,rfl⟩
     ·obtain ⟨r,n,f⟩:=a
      cases r with
      | none =>
        injection hw with hw
        injection hw with w1 w2
        subst w1 w2
        simp [optW]
      | some y =>
        have:=ih _ _ e1 (withoutL_mem hl x hx) _ _ e2 _ _ hw
        simp only [optW,List.mem_append]
        exact .inl this
     ·injection hw with hw
      injection hw with w1 w2
      subst w1 w2
      simp
   | .seq [] q acc,h,hn =>
     injection h with h
     subst h
     intro k' o' h' ks e ho
     injection ho with ho
     injection ho with w1 w2
     subst w1 w2
     cases k' with
     | zero=>cases h'
     | succ k' =>
       injection h' with h'
       subst h'
       exact ⟨[],by simp,by simp⟩
   | .seq (x::l) q acc,h,hn =>
     intro k' o' h' ks e ho
     change (run G items k (.part x q)).bind (seqK (run G items k) l acc)=some o at h
     rw [Option.bind_eq_some_iff] at h
     obtain ⟨⟨r,n,f⟩,h1,h2⟩:=h
     have hn':withoutL (x::l)=true:=hn
     unfold withoutL at hn'
     rw [Bool.and_eq_true] at hn'
     obtain ⟨k2,a,b,_,w1,w2,rfl⟩:=runW_inv (fun rc=>rfl) h'
     unfold seqK at h2
     cases r with
     | none=>injection h2 with h2;subst h2;cases ho
     | some y =>
       obtain ⟨ks1,e1⟩:=y
       change (run G items k (.seq l e1 (acc++ks1))).map _=some o at h2
       rw [Option.map_eq_some_iff] at h2
       obtain ⟨o2,h3,rfl⟩:=h2
       have m1:=ih _ _ h1 hn'.1 _ _ w1 ks1 e1 rfl
       obtain ⟨k3,b3,w3,w4⟩:=rowH_mem _ _ _ w2 _ _ m1
       obtain ⟨X,e3,e4⟩:=ih _ _ h3 hn'.2 _ _ w3 ks e ho
       exact ⟨ks1++X,by rw [e3,List.append_assoc],w4 _ e4⟩
   | .alt [] q,h,hn =>
     injection h with h
     subst h
     intro k' o' h' ks e ho
     cases ho
   | .alt (x::l) q,h,hn =>
     intro k' o' h' ks e ho
     change (run G items k (.part x q)).bind (altK (run G items k) l q)=some o at h
     rw [Option.bind_eq_some_iff] at h
     obtain ⟨⟨r,n,f⟩,h1,h2⟩:=h
     have hn':withoutL (x::l)=true:=hn
     unfold withoutL at hn'
     rw [Bool.and_eq_true] at hn'
     obtain ⟨k2,a,b,_,w1,w2,rfl⟩:=runW_inv (fun rc=>rfl) h'
     unfold altK at h2
     cases r with
     | some y =>
       injection h2 with h2
       subst h2
       simp only [altW,List.mem_append]
       exact .inl (ih _ _ h1 hn'.1 _ _ w1 ks e ho)
     | none =>
       change (run G items k (.alt l q)).map _=some o at h2
       rw [Option.map_eq_some_iff] at h2
       obtain ⟨o2,h3,rfl⟩:=h2
       simp only [altW,List.mem_append]
       exact .inr (ih _ _ h3 hn'.2 _ _ w2 ks e ho)
   | .many x q acc,h,hn =>
     intro k' o' h' ks e ho
     change (run G items k (.part x q)).bind (manyK (run G items k) x q acc)=some o at h
     rw [Option.bind_eq_some_iff] at h
     obtain ⟨⟨r,n,f⟩,h1,h2⟩:=h
     obtain ⟨k2,a,b,_,w1,w2,rfl⟩:=runW_inv (fun rc=>rfl) h'
     unfold manyK at h2
     cases r with
     | none =>
       injection h2 with h2
       subst h2
       injection ho with ho
       injection ho with c1 c2
       subst c1 c2
       exact ⟨[],by simp,by simp [againW]⟩
     | some y =>
       obtain ⟨ks1,e1⟩:=y
       change (run G items k (.many x e1 (acc++ks1))).map _=some o at h2
       rw [Option.map_eq_some_iff] at h2
       obtain ⟨o2,h3,rfl⟩:=h2
       have m1:=ih _ _ h1 hn _ _ w1 ks1 e1 rfl
       obtain ⟨k3,b3,w3,w4⟩:=againH_mem _ _ _ w2 _ _ m1
       obtain ⟨X,e3,e4⟩:=ih _ _ h3 hn _ _ w3 ks e ho
       exact ⟨ks1++X,by rw [e3,List.append_assoc],by simp only [againW,List.mem_append];exact .inl (w4 _ e4)⟩
theorem anyS_app {a b:List Part} {x:Part} (h:anyS a x=true):anyS (a++b) x=true:=by
 unfold anyS at h ⊢
 rw [List.any_append,h,Bool.true_or]
theorem collF_any {N:Nat} {many:Int} {x:Part}:∀(ws:List Way) (acc:List Part),anyS acc x=true→anyS (ws.foldl (collS N many) acc) x=true
 | [],acc,h=>h
 | w::ws,acc,h=>by
   rw [List.foldl_cons]
   refine collF_any ws _ ?_
   unfold collS
   split
   ·exact h
   ·split
    ·exact anyS_app h
    ·exact h
theorem collF_in {N:Nat} {many:Int} {x:Part} {l:List Part}:∀(ws:List Way) (acc:List Part),(x::l,N)∈ws→anyS (ws.foldl (collS N many) acc) x=true∨many≤((ws.foldl (collS N many) acc).length:Int)
 | w::ws,acc,h=>by
   rw [List.foldl_cons]
   rcases List.mem_cons.1 h with h|h
   ·subst h
    by_cases c:(acc.length:Int)<many
    ·left
     refine collF_any ws _ ?_
     by_cases ca:anyS acc x=true
     ·show anyS (if N=N∧(acc.length:Int)<many∧anyS acc x=false then acc++[x] else acc) x=true
      split
      ·exact anyS_app ca
      ·exact ca
     ·show anyS (if N=N∧(acc.length:Int)<many∧anyS acc x=false then acc++[x] else acc) x=true
      rw [if_pos ⟨rfl,c,by simpa using ca⟩]
      unfold anyS
      rw [List.any_append]
      simp [sameT_refl]
    ·right
     have e:collS N many acc (x::l,N)=acc:=by
      show (if N=N∧(acc.length:Int)<many∧anyS acc x=false then acc++[x] else acc)=acc
      rw [if_neg (fun k=>c k.2.1)]
     rw [e,collS_full c]
     omega
   ·exact collF_in ws _ h
end Go.Ev.G24
end
section
namespace Go.Ev.G24
open Go.RowKit Go.Proofs
variable {h h1 h2:Hp} {e:TypeId}
def SrcE (h:Hp) (v:Value) (ds:List Value):Prop:=lenOf' v=some ds.length∧first' h 1 ds.length v=some ds
theorem OwnE.src {n0 f0:Nat} {cs:List Value} {v:Value} (k:OwnE e h n0 f0 cs v):SrcE h v cs:=by
 rcases k with ⟨rfl,rfl⟩|⟨b,f,hl,rfl,hr,hb0,hf⟩
 ·exact ⟨rfl,rfl⟩
 ·refine ⟨rfl,?_⟩
  simp only [first',rowE_loads hr,List.drop_zero,Nat.mul_one]
  exact takeN_all _
theorem src_own {wb:Nat} {ds:List Value} {n c:Nat} (hw:h.own wb e ds) (hn:n=ds.length):SrcE h (.slice (some ⟨wb,0,none⟩) n c) ds:=by
 subst hn
 refine ⟨rfl,?_⟩
 simp only [first',loads_own hw,List.drop_zero,Nat.mul_one]
 exact takeN_all _
def GrownE (e:TypeId) (h:Hp) (n0 f0:Nat) (h':Hp):Prop:=(∀(S:Nat→Prop) (h0:Hp),ExtS S h0 h→h0.next≤n0→h0.nfam≤f0→ExtS S h0 h') ∧
 (∀b' e' c',e'≠e→h.own b' e' c'→h'.own b' e' c')∧h.next≤h'.next
set_option maxRecDepth 10000 in
theorem ownE_appends {t:TypeId} {z x:Value} (hu:Try.prog.underlying t=some (.slice e)) (hs:sizeOf' Try.prog e=some 1) (hz:zero' Try.prog e=some z) (hzl:Nat.beq z.cells.toList.length 1=true∧0<1)
  (hby:(match Try.prog.info? e with|some i=>Nat.ble i.bytes 100000&&Nat.blt 0 i.bytes|none=>false)=true) (hni:noInt Try.prog [t]=true) {ds:List Value} (hx1:ds.all oneCell=true)
  {n0 f0:Nat} {cs:List Value} {v:Value} (k:OwnE e h n0 f0 cs v) (hw:SrcE h x ds) (hb:h.base≤h.next) (hn0:n0≤h.next) (hf0:f0≤h.nfam) (hsz:cs.length+ds.length≤1000000) :
  ∃v' h',append' Try.prog h [t,t] [v,x]=some (v',h')∧OwnE e h' n0 f0 (cs++ds) v'∧GrownE e h n0 f0 h':=by
 obtain ⟨hln,hf1⟩:=hw
 by_cases hd:ds=[]
 ·subst hd
  refine ⟨v,h,?_,by rw [List.append_nil];exact k,fun S h0 q _ _=>q,fun b' e' c' _ o=>o,Nat.le_refl _⟩
  obtain ⟨A,rfl⟩:=k.len
  rw [append_of hu hs hz hzl hby h (len:=cs.length) (cap:=cs.length) (n:=0) hln hf1 (by simpa using hsz) (Nat.le_refl _) (by simp) rfl hni]
  have:Nat.ble (cs.length+0) cs.length=true:=by simp
  unfold apd
  rw [this]
  cases A with
  | none=>rfl
  | some a=>simp only [Hp.stores];rfl
 have hdl:0<ds.length:=List.length_pos_iff.2 hd
 rcases k with ⟨rfl,rfl⟩|⟨b,f,hl,rfl,hr,hb0,hf⟩
 ·have hx:=Ext.new h (CObj.cells { c:=ds,e:=e,fam:=0,base:=0,grown:=true })
  refine ⟨.slice (some ⟨h.next,0,none⟩) ds.length ds.length,h.newH (CObj.cells { c:=ds,e:=e,fam:=0,base:=0,grown:=true }),?_,?_,fun S h0 q _ _=>q.trans hx.toS,fun b' e' c' _ o=>own_ext hx o,hx.next⟩
  ·rw [append_of hu hs hz hzl hby h (len:=0) (cap:=0) (n:=ds.length) hln hf1 (by simpa using hsz) (Nat.le_refl _) hx1 (by omega) hni]
   have:Nat.ble (0+ds.length) 0=false:=ble_false (by omega)
   simp only [apd,this,Hp.grownRow,new_eq]
  ·refine .inr ⟨h.next,0,by simpa using hd,by simp,⟨hb,Nat.lt_succ_self _,⟨0,true,?_⟩,fun e=>absurd rfl e⟩,hn0,fun e=>absurd rfl e⟩
   simp only [Hp.row,get_newH,if_true,List.nil_append]
 ·have hlen:0<cs.length:=List.length_pos_iff.2 hl
  obtain ⟨bs,g,hrow⟩:=hr.row
  have hld:h.loads ⟨b,0,none⟩ (cs.length*1)=some cs:=by
   rw [rowE_loads hr,List.drop_zero,Nat.mul_one]
   exact takeN_all _
  have hc:Nat.ble (cs.length+ds.length) cs.length=false:=ble_false (by omega)
  have hbeq:Nat.beq e e=true:=by simp
  have happ:append' Try.prog h [t,t] [.slice (some ⟨b,0,none⟩) cs.length cs.length,x]=apd h e 1 (some ⟨b,0,none⟩) cs.length cs.length ds.length ds :=
   append_of hu hs hz hzl hby h hln hf1 (by omega) (Nat.le_refl _) hx1 (by omega) hni
  have fin:∀(f':Nat) (h':Hp),apd h e 1 (some ⟨b,0,none⟩) cs.length cs.length ds.length ds=some (.slice (some ⟨h.next,0,none⟩) (cs.length+ds.length) (cs.length+ds.length),h')→RowE e h' h.next (cs++ds) f'→(f'=f∧f≠0∨f'=h.nfam)→h'.base=h.base→h'.ro=h.ro→h'.next=h.next+1→h.nfam≤h'.nfam→(∀y,y<h.next→y≠b→h'.objs.get y=h.objs.get y)→(∀q,q<h.nfam→¬(q=f∧f≠0)→h'.fams.get q=h.fams.get q) →
    ∃v' h',append' Try.prog h [t,t] [.slice (some ⟨b,0,none⟩) cs.length cs.length,x]=some (v',h')∧OwnE e h' n0 f0 (cs++ds) v'∧GrownE e h n0 f0 h':=by
   intro f' h' a1 a2 a3 e1 e2 e3 e4 e5 e6
   have hf':f'≠0→f0≤f':=by
    intro c
    rcases a3 with ⟨rfl,q⟩|rfl
    ·exact hf q
    ·exact hf0
   refine ⟨_,h',by rw [happ,a1],.inr ⟨h.next,f',by simp [hl],by simp,a2,hn0,hf'⟩,fun S h0 q q1 q2=>grow_extS q (Nat.le_trans q1 hb0) (fun c=>Nat.le_trans q2 (hf c)) e1 e2 e3 e4 e5 e6,fun b' e' c' hne o => ?_,by omega⟩
   have hbb:=rowE_ne hr o hne
   exact ⟨by rw [e1];exact o.1,by have:=o.2.1;omega,by rw [e5 b' o.2.1 hbb];exact o.2.2⟩
  cases hfe:f with
  | zero =>
    subst hfe
    refine fin h.nfam { h with
     objs:=(h.objs.put b (.cells ⟨cs,e,h.nfam,bs,g⟩)).put h.next (.cells ⟨cs++ds,e,h.nfam,bs+0,true⟩)
     next:=h.next+1
     fams:=h.fams.put h.nfam (⟨h.next,bs+0,bs+0+(cs++ds).length⟩::stays b bs (bs+cs.length) (bs+0+cs.length*1))
     nfam:=h.nfam+1 } ?_ ?_ (.inr rfl) rfl rfl rfl (Nat.le_succ _) ?_ ?_
    ·simp only [apd,hc,hrow,hld,grow',hbeq]
    ·refine ⟨by have:=hr.lo;have:=hr.lt;show h.base≤h.next;omega,Nat.lt_succ_self _,⟨bs+0,true,?_⟩,fun _=>Nat.lt_succ_self _⟩
     simp only [Hp.row,Tr.get_put,if_true]
     cases hnf:h.nfam with
     | zero=>rfl
     | succ q=>simp only [Tr.get_put,if_true,List.any_cons,beq_nat,Bool.true_or]
    ·intro x hx hxb
     simp only [Tr.get_put,if_neg (Nat.ne_of_lt hx),if_neg hxb]
    ·intro q hq _
     simp only [Tr.get_put,if_neg (Nat.ne_of_lt hq)]
  | succ q0 =>
    subst hfe
    have hfm:∃l,h.fams.get (q0+1)=some l:=by
     have hrow2:=hrow
     unfold Hp.row at hrow2
     split at hrow2
     ·rename_i r hg
      split at hrow2
      ·rename_i e0
       injection hrow2 with hrow2
       rw [hrow2] at e0
       cases e0
      ·rename_i f0' e0
       split at hrow2
       ·rename_i l hl0
        split at hrow2
        ·injection hrow2 with hrow2
         rw [hrow2] at e0
         have e1:q0+1=f0'+1:=e0
         exact ⟨l,by rw [e1];exact hl0⟩
        ·cases hrow2
       ·cases hrow2
     ·cases hrow2
    obtain ⟨l,hl0⟩:=hfm
    refine fin (q0+1) { h with
     objs:=h.objs.put h.next (.cells ⟨cs++ds,e,q0+1,bs+0,true⟩)
     next:=h.next+1
     fams:=h.fams.put (q0+1) (⟨h.next,bs+0,bs+0+(cs++ds).length⟩::l.filter fun m=>Nat.ble m.hi (bs+0+cs.length*1)) } ?_ ?_ (.inl ⟨rfl,by omega⟩) rfl rfl rfl (Nat.le_refl _) ?_ ?_
    ·simp only [apd,hc,hrow,hld,grow',hbeq,hl0]
    ·refine ⟨by have:=hr.lo;have:=hr.lt;show h.base≤h.next;omega,Nat.lt_succ_self _,⟨bs+0,true,?_⟩,fun e=>hr.fl e⟩
     simp only [Hp.row,Tr.get_put,if_true,List.any_cons,beq_nat,Bool.true_or]
    ·intro x hx _
     simp only [Tr.get_put,if_neg (Nat.ne_of_lt hx)]
    ·intro q hq hqf
     have:¬q=q0+1:=fun e=>hqf ⟨e,by omega⟩
     simp only [Tr.get_put,if_neg this]
theorem apps25 {v x:Value} {n0 f0:Nat} {cs ds:List Value} (hx1:ds.all oneCell=true) (k:OwnE 9 h n0 f0 cs v) (hw:SrcE h x ds) (hb:h.base≤h.next) (hn0:n0≤h.next) (hf0:f0≤h.nfam) (hsz:cs.length+ds.length≤1000000) :
  ∃v' h',append' Try.prog h [25,25] [v,x]=some (v',h')∧OwnE 9 h' n0 f0 (cs++ds) v'∧GrownE 9 h n0 f0 h' :=
 ownE_appends (e:=9) (t:=25) Try.underlying25 sz9 z9 (by exact ⟨rfl,by decide⟩) (by kernel_rfl) (by kernel_rfl) hx1 k hw hb hn0 hf0 hsz
end Go.Ev.G24
end
section
namespace Go.Ev.G24
open Go.RowKit Go.Proofs
def strs (l:List ByteArray):List Value:=l.map Value.string
theorem strs_app (a b:List ByteArray):strs (a++b)=strs a++strs b:=List.map_append
theorem strs_cell (l:List ByteArray):(strs l).all oneCell=true:=by
 unfold strs
 rw [List.all_map]
 exact List.all_eq_true.2 fun x _=>rfl
theorem strs_len (l:List ByteArray):(strs l).length=l.length:=List.length_map _
def ItemsP (p:Part) (h:Hp) (v:Value) (h1:Hp):Prop:=Ext h h1∧OwnE 9 h1 h.next h.nfam (strs (tIt p)) v
def ItemsC (f:FuncId) (p:Part):Prop:=∀(h:Hp) (cs:List Value),h.base≤h.next→TreeAt h No No p cs→∃v h1,Snd Try.prog f [.agg cs.toArray] h v h1∧ItemsP p h v h1
theorem tItL_get {l:List Part} {i:Nat} (hi:i<l.length):tItL (l.take (i+1))=tItL (l.take i)++tIt l[i]:=by
 rw [List.take_succ_eq_append_getElem hi,tItL_app,tItL_one]
theorem tItL_len {l:List Part} {i:Nat} (hi:i<l.length):(tItL (l.take i)).length+(tIt l[i]).length≤(tItL l).length:=by
 have e:l=l.take (i+1)++l.drop (i+1):=(List.take_append_drop _ _).symm
 have h1:(tItL l).length=(tItL (l.take (i+1))).length+(tItL (l.drop (i+1))).length:=by
  conv=>lhs;rw [e]
  rw [tItL_app,List.length_append]
 rw [tItL_get hi,List.length_append] at h1
 omega
theorem tIt_len {d t:ByteArray} {l:List Part}:(tItL l).length≤(tIt ⟨d,t,l⟩).length∧(tIt ⟨d,t,l⟩).length≤1+(tItL l).length:=by
 rw [tIt,List.length_append]
 refine ⟨by omega,?_⟩
 split<;>simp
set_option maxHeartbeats 4000000 in
set_option maxRecDepth 10000 in
theorem items_loop {l:List Part} {Av:Option Addr} {c b o f:Nat} {row:List Value} {css:Nat→List Value} {h0 h1:Hp} (ih:∀(i:Nat) (p:Part),l[i]? = some p→ItemsC 20 p) (hl1:l.length≤100000) (hlen:(tItL l).length≤100000)
  (hA:l≠[]→Av=some ⟨b,o,none⟩∧RowAt h0 b row f∧¬No b∧¬No f) (hat:∀(i:Nat) (p:Part),l[i]? = some p→takeN (row.drop (o+i*3)) 3=some (css i)) (hk:∀(i:Nat) (p:Part),l[i]? = some p→TreeAt h0 No No p (css i)) (hb:h0.base≤h0.next)
  (hx0:Ext h0 h1) {pre:List ByteArray} (hpre:pre.length≤1) {v0:Value} (O:OwnE 9 h1 h0.next h0.nfam (strs pre) v0) {a:Ev.A} {Q:Ex→Ev.A→Hp→Prop} (hn:a.n=27) (g3:a.get 3=v0) (g15:a.get 15=.slice Av l.length c) (g16:a.get 16=.int .i64 (l.length:Int)) (g17:a.get 17=.int .i64 0)
  (hq:∀a1 h2 v,a1.n=27→Ext h0 h2→OwnE 9 h2 h0.next h0.nfam (strs (pre++tItL l)) v→a1.get 3=v→Q (.exit 0) a1 h2):Th Try.prog (bodyAt Try.f20 [1,1,1,0,1,0]) a h1 Q ⟨⟩ ⟨⟩:=by
 simp only [bodyAt,nav,Try.f20]
 refine loop_go (n:=27) (by kernel_rfl) (fun m' a' h'=>∃(i:Nat) (v:Value),i≤l.length∧m'=l.length - i∧Ext h0 h'∧OwnE 9 h' h0.next h0.nfam (strs (pre++tItL (l.take i))) v ∧
  a'.get 3=v∧a'.get 15=.slice Av l.length c∧a'.get 16=.int .i64 (l.length:Int)∧a'.get 17=.int .i64 (i:Int)) ?_ l.length _ _ hn ⟨0,v0,Nat.zero_le _,rfl,hx0,by simpa [tItL] using O,g3,g15,g16,g17⟩
 rintro m' a' h' hn' ⟨i,v,hi,rfl,hx,O',e3,e15,e16,e17⟩
 have hb':h'.base≤h'.next:=by rw [hx.base];exact Nat.le_trans hb hx.next
 by_cases hlt:i<l.length
 rotate_left
 ·have hi0:decide ((i:Int)<(l.length:Int))=false:=decide_eq_false (by omega)
  simp -dsimp only [go_sem,e3,e15,e16,e17,hi0]
  have:i=l.length:=by omega
  subst this
  rw [List.take_length] at O'
  exact hq _ h' v (by simp -dsimp only [go_sem,hn']) hx O' (by simp -dsimp only [go_sem,e3])
 have hpi:l[i]? = some l[i]:=List.getElem?_eq_getElem hlt
 have hi1:decide ((i:Int)<(l.length:Int))=true:=decide_eq_true (Int.ofNat_lt.2 hlt)
 obtain ⟨hAv,hRow,_,_⟩:=hA (ne_nil hlt)
 subst hAv
 have kp:=keepsE hx
 have hld:h'.loads ⟨b,o+i*3,none⟩ 3=some (css i):=by rw [row_loads (kp.rows _ _ _ hRow (fun c=>c) (fun c=>c)),hat i _ hpi]
 have hk1:=(hk i _ hpi).keep kp
 obtain ⟨kv,hcs,hkv⟩:=hk1.kids
 rw [hcs] at hld hk1
 obtain ⟨Avk,ck,rfl,hsk⟩:=hkv.slice
 obtain ⟨vS,vO,vX,vB,vR⟩:=var_ok hb' (e:=31) (c0:=[.string ⟨#[]⟩,.string ⟨#[]⟩,.slice none 0 0]) (c1:=[.string l[i].d,.string l[i].t,.slice Avk l[i].l.length ck]) rfl rfl (by simp)
 simp -dsimp only [go_sem,e3,e15,e16,e17,hi1,ia29 hlt,hld,vS,loads_own vO]
 obtain ⟨v2,h4,hs4,hx4,O4⟩:=ih i _ hpi _ _ vB (hk1.keep (keepsE vX))
 refine ⟨_,h4,hs4,?_⟩
 have hln:=tItL_len hlt
 have hxk:=vX.trans hx4
 obtain ⟨v',h6,ha6,O6,hext6,_,hn6⟩:=apps25 (strs_cell _) (O'.ext hxk) O4.src (by rw [hxk.base];exact Nat.le_trans hb' hxk.next) (Nat.le_trans hx.next hxk.next) (Nat.le_trans hx.nfam hxk.nfam) (by rw [strs_len,strs_len,List.length_append];omega)
 simp -dsimp only [go_sem,e3,e15,e16,e17,builtin',ha6,wrap64_succ hlt (Nat.le_trans hl1 (by decide))]
 refine ⟨l.length - (i+1),by omega,i+1,v',hlt,rfl,?_,?_,rfl,rfl⟩
 ·exact (hext6 (fun _=>False) h0 ((hx.trans hxk).toS) (Nat.le_refl _) (Nat.le_refl _)).ext (fun _ _ c=>c)
 ·rw [tItL_get hlt,←List.append_assoc,strs_app]
  exact O6
set_option maxHeartbeats 4000000 in
set_option maxRecDepth 10000 in
theorem items_c:∀(n:Nat) (p:Part),SizeOf.sizeOf p<n→Few p→(tIt p).length≤100000→ItemsC 20 p:=by
 intro n
 induction n with
 | zero=>exact fun p hp=>absurd hp (Nat.not_lt_zero _)
 | succ n ihn =>
 rintro ⟨d,t,l⟩ hn hfew hlen h cs hb hp
 cases hfew with
 | mk _ _ _ hl1 hfk =>
 have hl2:(tItL l).length≤100000:=Nat.le_trans tIt_len.1 hlen
 have ih:∀(i:Nat) (p:Part),l[i]? = some p→ItemsC 20 p:=fun i p hp=>ihn p (by
  have:=List.sizeOf_lt_of_mem (List.mem_of_getElem? hp)
  simp only [Part.mk.sizeOf_spec] at hn
  omega) (hfk i p hp) (by
  have hlt:=(List.getElem?_eq_some_iff.1 hp).1
  have e:=(List.getElem?_eq_some_iff.1 hp).2
  have:=tItL_len hlt
  rw [e] at this
  omega)
 cases hp with
 | mk _ _ _ Av c b o f row css hc hs hA hat hk =>
 refine snd_go wf Try.func20 rfl rfl (n:=27) rfl (by kernel_rfl) rfl ?_
 intro a hn hg
 have hr:Try.f20.results.toList=[.tmp 2]:=rfl
 have g0:=hg 0
 clear hg
 simp only [List.getElem?_cons_zero,List.getElem?_cons_succ] at g0
 have hP:=own_new hb 31 [.string d,.string t,.slice Av l.length c]
 have hx0:=Ext.new h (CObj.cells ⟨[.string d,.string t,.slice Av l.length c],31,0,0,false⟩)
 simp -dsimp only [go_sem,g0,next_newH]
 generalize h.newH (CObj.cells ⟨[.string d,.string t,.slice Av l.length c],31,0,0,false⟩)=h2 at hP hx0 ⊢
 have hb2:h2.base≤h2.next:=by rw [hx0.base];exact Nat.le_trans hb hx0.next
 by_cases c1:d.data.toList=[105,116,101,109]
 ·have k1:decide (d.data.toList=[105,116,101,109])=true:=decide_eq_true c1
  have hX6:=Ext.new h2 (CObj.cells ⟨[.string t],9,0,0,false⟩)
  have hW:=own_new hb2 9 [.string t]
  have hx06:=hx0.trans hX6
  obtain ⟨v',h7,ha7,O7,hext7,hk7,hn7⟩:=apps25 (n0:=h.next) (f0:=h.nfam) (cs:=[]) (ds:=[.string t]) rfl (.inl ⟨rfl,rfl⟩) (src_own hW (n:=1) (c:=1) rfl) (by rw [hX6.base];exact Nat.le_trans hb2 hX6.next) hx06.next hx06.nfam (by simp)
  have hx7:Ext h h7:=(hext7 (fun _=>False) h (hx06.toS) (Nat.le_refl _) (Nat.le_refl _)).ext (fun _ _ c=>c)
  have hP7:=hk7 _ _ _ (by decide) (own_ext hX6 hP)
  simp -dsimp only [go_sem,load_own hP,k1,bs25 1 (by decide),repeatN,builtin',ha7,load_own hP7]
  refine items_loop (l:=l) (c:=c) ih hl1 hl2 (fun e=>⟨(hA e).1,(hA e).2.1,fun c=>c,fun c=>c⟩) hat hk hb hx7 (pre:=[t]) (by simp) O7 (by simp -dsimp only [go_sem,hn]) (by simp -dsimp only [go_sem]) (by simp -dsimp only [go_sem]) (by simp -dsimp only [go_sem]) (by simp -dsimp only [go_sem]) (fun a1 h3 v hn3 hx3 O3 h33 => ?_)
  simp -dsimp only [go_sem,h33,hr]
  exact ⟨hx3,by rw [tIt,if_pos c1];exact O3⟩
 ·have k1:decide (d.data.toList=[105,116,101,109])=false:=decide_eq_false c1
  simp -dsimp only [go_sem,load_own hP,k1]
  refine items_loop (l:=l) (c:=c) ih hl1 hl2 (fun e=>⟨(hA e).1,(hA e).2.1,fun c=>c,fun c=>c⟩) hat hk hb hx0 (pre:=[]) (by simp) (.inl ⟨rfl,rfl⟩) (by simp -dsimp only [go_sem,hn]) (by simp -dsimp only [go_sem]) (by simp -dsimp only [go_sem]) (by simp -dsimp only [go_sem]) (by simp -dsimp only [go_sem]) (fun a1 h3 v hn3 hx3 O3 h33 => ?_)
  simp -dsimp only [go_sem,h33,hr]
  exact ⟨hx3,by rw [tIt,if_neg c1];exact O3⟩
end Go.Ev.G24
end
section
namespace Go.Ev.G24
open Go.RowKit Go.Proofs
set_option maxHeartbeats 4000000 in
set_option maxRecDepth 10000 in
theorem refItems_loop {d t:ByteArray} {l:List Part} {Av:Option Addr} {c b o f pb:Nat} {row:List Value} {css:Nat→List Value} {h0 h1:Hp} (ih:∀(i:Nat) (p:Part),l[i]? = some p→ItemsC 21 p) (hl1:l.length≤100000) (hlen:(tItL l).length≤100000)
  (hA:l≠[]→Av=some ⟨b,o,none⟩∧RowAt h0 b row f∧¬No b∧¬No f) (hat:∀(i:Nat) (p:Part),l[i]? = some p→takeN (row.drop (o+i*3)) 3=some (css i)) (hk:∀(i:Nat) (p:Part),l[i]? = some p→TreeAt h0 No No p (css i)) (hb:h0.base≤h0.next)
  (hx0:Ext h0 h1) (hP:h1.own pb 31 [.string d,.string t,.slice Av l.length c]) {pre:List ByteArray} (hpre:pre.length≤1) {v0:Value} (O:OwnE 9 h1 h0.next h0.nfam (strs pre) v0) {a:Ev.A} {Q:Ex→Ev.A→Hp→Prop} (hn:a.n=29) (g1:a.get 1=.pointer (some ⟨pb,0,none⟩)) (g3:a.get 3=v0) (g4:a.get 4=.int .i64 0)
  (hq:∀a1 h2 v,a1.n=29→Ext h0 h2→OwnE 9 h2 h0.next h0.nfam (strs (pre++tItL l)) v→a1.get 3=v→Q (.exit 0) a1 h2):Th Try.prog (bodyAt Try.f21 [1,1,1,0,1,0]) a h1 Q ⟨⟩ ⟨⟩:=by
 simp only [bodyAt,nav,Try.f21]
 refine loop_go (n:=29) (by kernel_rfl) (fun m' a' h'=>∃(i:Nat) (v:Value),i≤l.length∧m'=l.length - i∧Ext h0 h'∧h'.own pb 31 [.string d,.string t,.slice Av l.length c]∧OwnE 9 h' h0.next h0.nfam (strs (pre++tItL (l.take i))) v ∧
  a'.get 1=.pointer (some ⟨pb,0,none⟩)∧a'.get 3=v∧a'.get 4=.int .i64 (i:Int)) ?_ l.length _ _ hn ⟨0,v0,Nat.zero_le _,rfl,hx0,hP,by simpa [tItL] using O,g1,g3,g4⟩
 rintro m' a' h' hn' ⟨i,v,hi,rfl,hx,hP',O',e1,e3,e4⟩
 have hb':h'.base≤h'.next:=by rw [hx.base];exact Nat.le_trans hb hx.next
 by_cases hlt:i<l.length
 rotate_left
 ·have hi0:decide ((i:Int)<(l.length:Int))=false:=decide_eq_false (by omega)
  simp -dsimp only [go_sem,e1,e3,e4,load_own hP',hi0]
  have:i=l.length:=by omega
  subst this
  rw [List.take_length] at O'
  exact hq _ h' v (by simp -dsimp only [go_sem,hn']) hx O' (by simp -dsimp only [go_sem,e3])
 have hpi:l[i]? = some l[i]:=List.getElem?_eq_getElem hlt
 have hi1:decide ((i:Int)<(l.length:Int))=true:=decide_eq_true (Int.ofNat_lt.2 hlt)
 obtain ⟨hAv,hRow,_,_⟩:=hA (ne_nil hlt)
 subst hAv
 have kp:=keepsE hx
 have hld:h'.loads ⟨b,o+i*3,none⟩ 3=some (css i):=by rw [row_loads (kp.rows _ _ _ hRow (fun c=>c) (fun c=>c)),hat i _ hpi]
 have hk1:=(hk i _ hpi).keep kp
 obtain ⟨kv,hcs,hkv⟩:=hk1.kids
 rw [hcs] at hld hk1
 obtain ⟨Avk,ck,rfl,hsk⟩:=hkv.slice
 simp -dsimp only [go_sem,e1,e3,e4,hi1,ia29 hlt,hld,load_own hP']
 obtain ⟨v2,h4,hs4,hx4,O4⟩:=ih i _ hpi _ _ hb' hk1
 refine ⟨_,h4,hs4,?_⟩
 have hln:=tItL_len hlt
 obtain ⟨v',h6,ha6,O6,hext6,hk6,hn6⟩:=apps25 (strs_cell _) (O'.ext hx4) O4.src (by rw [hx4.base];exact Nat.le_trans hb' hx4.next) (Nat.le_trans hx.next hx4.next) (Nat.le_trans hx.nfam hx4.nfam) (by rw [strs_len,strs_len,List.length_append];omega)
 simp -dsimp only [go_sem,e1,e3,e4,builtin',ha6,wrap64_succ hlt (Nat.le_trans hl1 (by decide))]
 refine ⟨l.length - (i+1),by omega,i+1,v',hlt,rfl,?_,hk6 _ _ _ (by decide) (own_ext hx4 hP'),?_,rfl,rfl⟩
 ·exact (hext6 (fun _=>False) h0 ((hx.trans hx4).toS) (Nat.le_refl _) (Nat.le_refl _)).ext (fun _ _ c=>c)
 ·rw [tItL_get hlt,←List.append_assoc,strs_app]
  exact O6
set_option maxHeartbeats 4000000 in
set_option maxRecDepth 10000 in
theorem refItems_c:∀(n:Nat) (p:Part),SizeOf.sizeOf p<n→Few p→(tIt p).length≤100000→ItemsC 21 p:=by
 intro n
 induction n with
 | zero=>exact fun p hp=>absurd hp (Nat.not_lt_zero _)
 | succ n ihn =>
 rintro ⟨d,t,l⟩ hn hfew hlen h cs hb hp
 cases hfew with
 | mk _ _ _ hl1 hfk =>
 have hl2:(tItL l).length≤100000:=Nat.le_trans tIt_len.1 hlen
 have ih:∀(i:Nat) (p:Part),l[i]? = some p→ItemsC 21 p:=fun i p hp=>ihn p (by
  have:=List.sizeOf_lt_of_mem (List.mem_of_getElem? hp)
  simp only [Part.mk.sizeOf_spec] at hn
  omega) (hfk i p hp) (by
  have hlt:=(List.getElem?_eq_some_iff.1 hp).1
  have e:=(List.getElem?_eq_some_iff.1 hp).2
  have:=tItL_len hlt
  rw [e] at this
  omega)
 cases hp with
 | mk _ _ _ Av c b o f row css hc hs hA hat hk =>
 refine snd_go wf Try.func21 rfl rfl (n:=29) rfl (by kernel_rfl) rfl ?_
 intro a hn hg
 have hr:Try.f21.results.toList=[.tmp 2]:=rfl
 have g0:=hg 0
 clear hg
 simp only [List.getElem?_cons_zero,List.getElem?_cons_succ] at g0
 have hP:=own_new hb 31 [.string d,.string t,.slice Av l.length c]
 have hx0:=Ext.new h (CObj.cells ⟨[.string d,.string t,.slice Av l.length c],31,0,0,false⟩)
 simp -dsimp only [go_sem,g0,next_newH]
 generalize h.newH (CObj.cells ⟨[.string d,.string t,.slice Av l.length c],31,0,0,false⟩)=h2 at hP hx0 ⊢
 have hb2:h2.base≤h2.next:=by rw [hx0.base];exact Nat.le_trans hb hx0.next
 by_cases c1:d.data.toList=[105,116,101,109]
 ·have k1:decide (d.data.toList=[105,116,101,109])=true:=decide_eq_true c1
  have hX6:=Ext.new h2 (CObj.cells ⟨[.string t],9,0,0,false⟩)
  have hW:=own_new hb2 9 [.string t]
  have hx06:=hx0.trans hX6
  obtain ⟨v',h7,ha7,O7,hext7,hk7,hn7⟩:=apps25 (n0:=h.next) (f0:=h.nfam) (cs:=[]) (ds:=[.string t]) rfl (.inl ⟨rfl,rfl⟩) (src_own hW (n:=1) (c:=1) rfl) (by rw [hX6.base];exact Nat.le_trans hb2 hX6.next) hx06.next hx06.nfam (by simp)
  have hx7:Ext h h7:=(hext7 (fun _=>False) h (hx06.toS) (Nat.le_refl _) (Nat.le_refl _)).ext (fun _ _ c=>c)
  have hP7:=hk7 _ _ _ (by decide) (own_ext hX6 hP)
  simp -dsimp only [go_sem,load_own hP,k1,bs25 1 (by decide),repeatN,builtin',ha7,load_own hP7]
  refine refItems_loop (d:=d) (t:=t) (pb:=h.next) (l:=l) (c:=c) ih hl1 hl2 (fun e=>⟨(hA e).1,(hA e).2.1,fun c=>c,fun c=>c⟩) hat hk hb hx7 hP7 (pre:=[t]) (by simp) O7 (by simp -dsimp only [go_sem,hn]) (by simp -dsimp only [go_sem]) (by simp -dsimp only [go_sem]) (by simp -dsimp only [go_sem]) (fun a1 h3 v hn3 hx3 O3 h33 => ?_)
  simp -dsimp only [go_sem,h33,hr]
  exact ⟨hx3,by rw [tIt,if_pos c1];exact O3⟩
 ·have k1:decide (d.data.toList=[105,116,101,109])=false:=decide_eq_false c1
  simp -dsimp only [go_sem,load_own hP,k1]
  refine refItems_loop (d:=d) (t:=t) (pb:=h.next) (l:=l) (c:=c) ih hl1 hl2 (fun e=>⟨(hA e).1,(hA e).2.1,fun c=>c,fun c=>c⟩) hat hk hb hx0 hP (pre:=[]) (by simp) (.inl ⟨rfl,rfl⟩) (by simp -dsimp only [go_sem,hn]) (by simp -dsimp only [go_sem]) (by simp -dsimp only [go_sem]) (by simp -dsimp only [go_sem]) (fun a1 h3 v hn3 hx3 O3 h33 => ?_)
  simp -dsimp only [go_sem,h33,hr]
  exact ⟨hx3,by rw [tIt,if_neg c1];exact O3⟩
end Go.Ev.G24
end
section
namespace Go.Ev.G24
open Go.RowKit Go.Proofs
def StrsAt (h:Hp) (v:Value) (ss:List ByteArray):Prop:=∃A c,v=.slice A ss.length c∧spotless A=true∧(ss≠[]→∃b o,A=some ⟨b,o,none⟩∧∀(i:Nat) (s:ByteArray),ss[i]? = some s→h.load ⟨b,o+i,none⟩=some (.string s))
theorem OwnE.strsAt {h:Hp} {n0 f0:Nat} {ss:List ByteArray} {v:Value} (k:OwnE 9 h n0 f0 (strs ss) v):StrsAt h v ss:=by
 rcases k with ⟨e,rfl⟩|⟨b,f,hl,rfl,hr,hb0,hf⟩
 ·have:ss=[]:=List.map_eq_nil_iff.1 e
  subst this
  exact ⟨none,0,rfl,rfl,fun c=>absurd rfl c⟩
 ·refine ⟨some ⟨b,0,none⟩,(strs ss).length,by rw [strs_len],rfl,fun _=>⟨b,0,rfl,fun i s hi => ?_⟩⟩
  rw [rowE_load hr,Nat.zero_add]
  unfold strs
  rw [List.getElem?_map,hi]
  rfl
theorem RoStrs.strsAt {h:Hp} {r:Ro} {items:List ByteArray} {Iv:Option Addr} {c b o:Nat} (R:RoStrs r items Iv c b o) (hr:h.rom=r):StrsAt h (.slice Iv items.length c) items:=by
 refine ⟨Iv,c,rfl,R.hs,fun e=>⟨b,o,R.hA e,fun i s hi => ?_⟩⟩
 exact load_ro (j:=0) hr (R.hat i s hi) rfl
def sameL (a b:List ByteArray):Bool:=decide (a.map (fun s=>s.data.toList)=b.map (fun s=>s.data.toList))
theorem sameL_refl (a:List ByteArray):sameL a a=true:=decide_eq_true rfl
set_option maxHeartbeats 4000000 in
set_option maxRecDepth 10000 in
theorem sameTexts_c {a b:List ByteArray} {v u:Value} (h:Hp) (ha:StrsAt h v a) (hb:StrsAt h u b) (hl:a.length≤1000000):∃w h1,Snd Try.prog 19 [v,u] h w h1∧w=.bool (sameL a b)∧h1=h:=by
 obtain ⟨A,c,rfl,hsA,hA⟩:=ha
 obtain ⟨B,d,rfl,hsB,hB⟩:=hb
 refine snd_go wf Try.func19 rfl rfl (n:=26) rfl (by kernel_rfl) rfl ?_
 intro ac hn hg
 have hr:Try.f19.results.toList=[.tmp 4]:=rfl
 have g0:=hg 0
 have g1:=hg 1
 clear hg
 simp only [List.getElem?_cons_zero,List.getElem?_cons_succ] at g0 g1
 by_cases hlen:a.length=b.length
 rotate_left
 ·have k1:decide ((a.length:Int)=(b.length:Int))=false:=decide_eq_false (by omega)
  have e:sameL a b=false:=by
   unfold sameL
   refine decide_eq_false (fun c=>hlen ?_)
   have:=congrArg List.length c
   simpa using this
  simp -dsimp only [go_sem,g0,g1,k1,hr,e,Bool.not_false]
 have k1:decide ((a.length:Int)=(b.length:Int))=true:=decide_eq_true (by omega)
 simp -dsimp only [go_sem,g0,g1,k1,Bool.not_true]
 refine loop_go (n:=26) (by kernel_rfl) (fun m' a' h'=>∃i:Nat,i≤a.length∧m'=a.length - i∧h'=h∧(a.take i).map (fun s=>s.data.toList)=(b.take i).map (fun s=>s.data.toList) ∧
  a'.get 0=.slice A a.length c∧a'.get 1=.slice B b.length d∧a'.get 12=.int .i64 (a.length:Int)∧a'.get 13=.int .i64 (i:Int)) ?_ a.length _ _ (by simp -dsimp only [go_sem,hn]) ⟨0,Nat.zero_le _,rfl,rfl,rfl,by simp -dsimp only [go_sem,g0],by simp -dsimp only [go_sem,g1],by simp -dsimp only [go_sem],by simp -dsimp only [go_sem];rfl⟩
 rintro m' a' h' hn' ⟨i,hi,rfl,rfl,hst,e0,e1,e12,e13⟩
 by_cases hlt:i<a.length
 rotate_left
 ·have hi0:decide ((i:Int)<(a.length:Int))=false:=decide_eq_false (by omega)
  have:i=a.length:=by omega
  subst this
  rw [List.take_length,hlen,List.take_length] at hst
  have e:sameL a b=true:=decide_eq_true hst
  simp -dsimp only [go_sem,e12,e13,hi0,hr,e]
 have hltb:i<b.length:=by omega
 have hi1:decide ((i:Int)<(a.length:Int))=true:=decide_eq_true (Int.ofNat_lt.2 hlt)
 obtain ⟨ba,oa,rfl,ha2⟩:=hA (ne_nil hlt)
 obtain ⟨bb,ob,rfl,hb2⟩:=hB (ne_nil hltb)
 have la:=ha2 i _ (List.getElem?_eq_getElem hlt)
 have lb:=hb2 i _ (List.getElem?_eq_getElem hltb)
 simp -dsimp only [go_sem,e0,e1,e12,e13,hi1]
 refine Dw_reads (n:=26) (by simp -dsimp only [go_sem,hn']) (by kernel_rfl) (by kernel_rfl) ?_
 simp -dsimp only [go_sem,e0,e1,e12,e13,ia25 hlt,ia25 hltb,la,lb]
 by_cases hs:a[i].data.toList=b[i].data.toList
 ·have k2:decide (a[i].data.toList=b[i].data.toList)=true:=decide_eq_true hs
  simp -dsimp only [go_sem,k2,Bool.not_true,e12,e13,wrap64_succ hlt (Nat.le_trans hl (by decide))]
  refine ⟨a.length - (i+1),by omega,i+1,hlt,rfl,?_,e0,e1,rfl⟩
  rw [List.take_succ_eq_append_getElem hlt,List.take_succ_eq_append_getElem hltb,List.map_append,List.map_append,hst]
  simp [hs]
 ·have k2:decide (a[i].data.toList=b[i].data.toList)=false:=decide_eq_false hs
  have e:sameL a b=false:=by
   unfold sameL
   refine decide_eq_false (fun c=>hs ?_)
   have:=congrArg (·[i]?) c
   simpa [List.getElem?_eq_getElem hlt,List.getElem?_eq_getElem hltb] using this
  simp -dsimp only [go_sem,k2,Bool.not_false,hr,e]
def WithoutC (r:Ro) (p:Part):Prop:=∀(h:Hp) (cs:List Value),h.rom=r→h.base≤h.next→RoPart r p cs→∃v h1,Snd Try.prog 24 [.agg cs.toArray] h v h1∧v=.bool (withoutB p)∧Ext h h1
theorem withoutL_iff:∀l:List Part,withoutL l=true↔∀(i:Nat) (p:Part),l[i]? = some p→withoutB p=true
 | []=>by simp [withoutL]
 | x::l=>by
   rw [withoutL,Bool.and_eq_true,withoutL_iff l]
   constructor
   ·rintro ⟨h1,h2⟩ i p hp
    cases i with
    | zero=>simp at hp;subst hp;exact h1
    | succ i=>exact h2 i p (by simpa using hp)
   ·exact fun h=>⟨h 0 x rfl,fun i p hp=>h (i+1) p (by simpa using hp)⟩
set_option maxHeartbeats 4000000 in
set_option maxRecDepth 10000 in
theorem without_c {r:Ro}:∀(n:Nat) (p:Part),SizeOf.sizeOf p<n→WithoutC r p:=by
 intro n
 induction n with
 | zero=>exact fun p hp=>absurd hp (Nat.not_lt_zero _)
 | succ n ihn =>
 rintro ⟨d,t,l⟩ hn h cs hrom hb hp
 have ih:∀(i:Nat) (p:Part),l[i]? = some p→WithoutC r p:=fun i p hp=>ihn p (by
  have:=List.sizeOf_lt_of_mem (List.mem_of_getElem? hp)
  simp only [Part.mk.sizeOf_spec] at hn
  omega)
 cases hp with
 | mk _ _ _ Av c b o css hc hlb hA hat hk =>
 refine snd_go wf Try.func24 rfl rfl (n:=19) rfl (by kernel_rfl) rfl ?_
 intro a hn hg
 have hr:Try.f24.results.toList=[.tmp 2]:=rfl
 have g0:=hg 0
 clear hg
 simp only [List.getElem?_cons_zero,List.getElem?_cons_succ] at g0
 have hP:=own_new hb 52 [.string d,.string t,.slice Av l.length c]
 have hx0:=Ext.new h (CObj.cells ⟨[.string d,.string t,.slice Av l.length c],52,0,0,false⟩)
 have hb1:(h.newH (CObj.cells ⟨[.string d,.string t,.slice Av l.length c],52,0,0,false⟩)).base≤(h.newH (CObj.cells ⟨[.string d,.string t,.slice Av l.length c],52,0,0,false⟩)).next:=Nat.le_succ_of_le hb
 by_cases c1:d.data.toList=[110,111,116]
 ·have k1:decide (d.data.toList=[110,111,116])=true:=decide_eq_true c1
  have e:withoutB ⟨d,t,l⟩=false:=by unfold withoutB;rw [k1];rfl
  simp -dsimp only [go_sem,g0,load_own hP,k1,hr,e]
  exact hx0
 have k1:decide (d.data.toList=[110,111,116])=false:=decide_eq_false c1
 have e:withoutB ⟨d,t,l⟩=withoutL l:=by unfold withoutB;rw [k1];rfl
 simp -dsimp only [go_sem,g0,load_own hP,k1]
 generalize h.newH (CObj.cells ⟨[.string d,.string t,.slice Av l.length c],52,0,0,false⟩)=h1 at *
 refine loop_go (n:=19) (by kernel_rfl) (fun m' a' h'=>∃i:Nat,i≤l.length∧m'=l.length - i∧Ext h1 h'∧a'.get 9=.slice Av l.length c∧a'.get 10=.int .i64 l.length∧a'.get 11=.int .i64 i∧∀(j:Nat) (p:Part),j<i→l[j]? = some p→withoutB p=true) ?_ l.length _ _ (by simp -dsimp only [go_sem,hn]) ?_
 ·rintro m' a' h' hn' ⟨i,hi,rfl,hx,e32,e33,e34,hall⟩
  have hrom':h'.rom=r:=(hx.rom.trans hx0.rom).trans hrom
  have hb':h'.base≤h'.next:=by rw [hx.base];exact Nat.le_trans hb1 hx.next
  by_cases hlt:i<l.length
  ·have hpi:l[i]? = some l[i]:=List.getElem?_eq_getElem hlt
   have hi1:decide ((i:Int)<(l.length:Int))=true:=decide_eq_true (Int.ofNat_lt.2 hlt)
   obtain ⟨Av1,c1',hcs⟩:=(hk i _ hpi).shape
   have hat':=hat i _ hpi
   have hkid:=hk i _ hpi
   rw [hcs] at hat' hkid
   rw [hA (ne_nil hlt)] at e32
   obtain ⟨vS,vO,vX,vB,vR⟩:=var_ok hb' (e:=52) (c0:=[.string ⟨#[]⟩,.string ⟨#[]⟩,.slice none 0 0]) (c1:=[.string l[i].d,.string l[i].t,.slice Av1 l[i].l.length c1']) rfl rfl (by simp)
   simp -dsimp only [go_sem,e32,e33,e34,hi1,ia50 hlt,loads_ro (n:=3) hrom' hat' rfl,vS,loads_own vO]
   obtain ⟨_,h2,hs,rfl,hx2⟩:=ih i _ hpi _ _ (vR.trans hrom') vB hkid
   refine ⟨_,h2,hs,?_⟩
   cases hm:withoutB l[i] with
   | false =>
     simp -dsimp only [go_sem,hr,e,Bool.not_false]
     refine ⟨?_,hx0.trans (hx.trans (vX.trans hx2))⟩
     cases hq:withoutL l with
      | false=>rfl
      | true=>rw [(withoutL_iff l).1 hq i _ hpi] at hm;cases hm
   | true =>
     simp -dsimp only [go_sem,e32,e33,e34,wrap64_succ hlt hlb,Bool.not_true]
     refine ⟨l.length - (i+1),by omega,i+1,hlt,rfl,hx.trans (vX.trans hx2),by rw [hA (ne_nil hlt)],rfl,fun j p hj hp => ?_⟩
     rcases Nat.lt_succ_iff_lt_or_eq.1 hj with h|h
     ·exact hall j p h hp
     ·subst h;rw [hpi] at hp;injection hp with hp;subst hp;exact hm
  ·have hi0:decide ((i:Int)<(l.length:Int))=false:=decide_eq_false (by omega)
   have hall':withoutL l=true:=(withoutL_iff l).2 fun j p hp=>hall j p (by have:=(List.getElem?_eq_some_iff.1 hp).1;omega) hp
   simp -dsimp only [go_sem,e33,e34,hi0,hr,e,hall']
   exact hx0.trans hx
 ·refine ⟨0,Nat.zero_le _,rfl,Ext.refl _,?_⟩
  simp -dsimp only [go_sem]
  exact ⟨rfl,fun j p hj=>absurd hj (Nat.not_lt_zero _)⟩
end Go.Ev.G24
end
section
namespace Go.Ev.G24
open Go.RowKit Go.Proofs
variable {r:Ro} {G:List Rule} {items:List ByteArray} {Gv Iv:Option Addr} {gc ic xb:Nat}
theorem KidsO.ext {h h1:Hp} {B F:Nat→Prop} {n0 f0:Nat} {l:List Part} {v:Value} (x:Ext h h1) (k:KidsO h n0 f0 B F l v):KidsO h1 n0 f0 B F l v:=by
 obtain ⟨cs,css,k1,k2,k3⟩:=k
 exact ⟨cs,css,k1.ext (S:=fun _=>False) x.toS (fun _ _ c=>c),k2,fun i p hp=>((k3 i p hp).keep (keepsE x).any).more (fun b _ c=>c) (fun f c=>.inl (c.elim .inl (fun c=>.inr (k1.ownF_same (S:=fun _=>False) x.toS (fun _ _ c=>c) c))))⟩
theorem KidsO.kidsLt {h:Hp} {B F:Nat→Prop} {n0 f0:Nat} {l:List Part} {v:Value} (k:KidsO h n0 f0 B F l v) {b:Nat} (c:ownB v b):n0≤b∧b<h.next:=by
 obtain ⟨cs,css,k1,k2,k3⟩:=k
 exact k1.lt c
set_option maxHeartbeats 8000000 in
set_option maxRecDepth 10000 in
theorem gather_c {h0 hs:Hp} {n0 f0:Nat} {ws:List Way} {vl:Value} {many:Int} (hb:hs.base≤hs.next) (hn0:h0.next≤hs.next) (hf0:h0.nfam≤hs.nfam) (hW:WR hs n0 f0 (OldB h0) (OldF h0) ws vl) (hone:∀w∈ws,∃x,w.1=[x]∧Few x) (hwl:ws.length≤500000)
  {a:Ev.A} {Q:Ex→Ev.A→Hp→Prop} (hn:a.n=83) (g2:a.get 2=.slice Iv items.length ic) (g3:a.get 3=.int .i64 many) (g14:a.get 14=.slice none 0 0) (g15:a.get 15=vl) (g16:a.get 16=.int .i64 0)
  (hq:∀a1 h1 v',a1.n=83→Ext hs h1→KidsAt h1 (OldB h0) (OldF h0) (collW items.length many ws) v'→a1.get 14=v'→Q (.exit 0) a1 h1) :
  Th Try.prog (bodyAt Try.f22 [1,1,1,1,1,1,0,1,0]) a hs Q ⟨⟩ ⟨⟩:=by
 obtain ⟨Al,hvl,hspl⟩:=hW.slice
 simp only [bodyAt,nav,Try.f22]
 refine loop_go (n:=83) (by kernel_rfl) (fun m' a' h'=>∃(i:Nat) (acc:List Part) (v:Value),i≤ws.length∧m'=ws.length - i∧Ext hs h'∧acc.length≤i∧(∀p∈acc,Few p)∧(ws.drop i).foldl (collS items.length many) acc=collW items.length many ws∧KidsO h' hs.next hs.nfam (OldB h0) (OldF h0) acc v ∧
  a'.get 2=.slice Iv items.length ic∧a'.get 3=.int .i64 many∧a'.get 14=v∧a'.get 15=vl∧a'.get 16=.int .i64 i) ?_ ws.length _ _ hn ⟨0,[],_,Nat.zero_le _,rfl,Ext.refl _,Nat.le_refl _,fun p hp=>by simp at hp,rfl,nil_own,g2,g3,g14,g15,g16⟩
 rintro m' a' h' hn' ⟨i,acc,v,hi,rfl,hx,hacc,hfew,hfold,hK,e2,e3,e14,e15,e16⟩
 have hb':h'.base≤h'.next:=by rw [hx.base];exact Nat.le_trans hb hx.next
 have hKat:=hK.kids (fun b c=>Nat.lt_of_lt_of_le c hn0) (fun f c=>⟨c.1,Nat.lt_of_lt_of_le c.2 hf0⟩)
 obtain ⟨Av,cv,hv,hspv⟩:=hKat.slice
 by_cases hlt:i<ws.length
 rotate_left
 ·have hi0:decide ((i:Int)<(ws.length:Int))=false:=decide_eq_false (by omega)
  rw [List.drop_eq_nil_of_le (by omega),List.foldl_nil] at hfold
  rw [hvl] at e15
  simp -dsimp only [go_sem,undef',e2,e3,e14,e15,e16,hi0]
  exact hq _ h' v (by simp -dsimp only [go_sem,hn']) hx (by rw [←hfold];exact hKat) (by simp -dsimp only [go_sem,e14])
 have hi1:decide ((i:Int)<(ws.length:Int))=true:=decide_eq_true (Int.ofNat_lt.2 hlt)
 by_cases hm:(acc.length:Int)<many
 rotate_left
 ·rw [hvl] at e15
  rw [hv] at e14
  rw [collS_full hm] at hfold
  simp -dsimp only [go_sem,undef',e2,e3,e14,e15,e16,hi1,decide_eq_false hm]
  exact hq _ h' v (by simp -dsimp only [go_sem,hn']) hx (by rw [←hfold];exact hKat) (by simp -dsimp only [go_sem,e14,hv])
 obtain ⟨⟨wl,e⟩,hwi⟩:∃w,ws[i]? = some w:=⟨_,List.getElem?_eq_getElem hlt⟩
 obtain ⟨⟨dx,tx,lx⟩,hwx,hfx⟩:=hone _ (List.mem_of_getElem? hwi)
 have hwx:wl=[⟨dx,tx,lx⟩]:=hwx
 subst hwx
 obtain ⟨bh,Ah,ch,hvh,hsph,Kh,ldh⟩:=hW.getR hwi
 obtain ⟨ll0,le0⟩:=ldh _ hx
 have Kh2:=Kh.more (B':=OldB h0) (F':=OldF h0) (fun b _ c=>.inl c) (fun f c=>.inl (.inl c))
 obtain ⟨A9,c9,b9,o9,f9,row9,css9,hveq,hc9,hs9,hA9,hat9,hk9⟩:=Kh2
 cases hveq
 obtain ⟨rfl,hrow9,_,_⟩:=hA9 (by simp)
 have hat0:=hat9 0 ⟨dx,tx,lx⟩ rfl
 have hk0:=hk9 0 ⟨dx,tx,lx⟩ rfl
 rw [Nat.zero_mul,Nat.add_zero] at hat0
 obtain ⟨kv0,hcs0,hkv0⟩:=hk0.kids
 rw [hcs0] at hat0
 obtain ⟨A0,c0,rfl,hsp0⟩:=hkv0.slice
 have hix:indexAddr' Try.prog 29 (.slice (some ⟨b9,o9,none⟩) 1 ch) (.int .i64 0)=some (.pointer (some ⟨b9,o9,none⟩)):=by
  have:=ia29 (b:=b9) (o:=o9) (c:=ch) (n:=1) (i:=0) (by decide)
  simpa using this
 have hrowk:∀h1,Ext hs h1→h1.loads ⟨b9,o9,none⟩ 3=some [.string dx,.string tx,.slice A0 lx.length c0]:=fun h1 x1=>by
  rw [row_loads ((keepsE x1).rows _ _ _ hrow9 (fun c=>c) (fun c=>c)),hat0]
 rw [List.drop_eq_getElem_cons hlt,List.foldl_cons] at hfold
 have hwe:ws[i]=([⟨dx,tx,lx⟩],e):=by
  rw [List.getElem?_eq_getElem hlt] at hwi
  injection hwi
 rw [hwe] at hfold
 rw [hvh] at e15
 rw [hv] at e14
 by_cases he:e=items.length
 rotate_left
 ·have k1:decide ((e:Int)=(items.length:Int))=false:=decide_eq_false (by omega)
  have ec:collS items.length many acc ([⟨dx,tx,lx⟩],e)=acc:=by
   simp only [collS]
   rw [if_neg (fun c=>he c.1)]
  rw [ec] at hfold
  simp -dsimp only [go_sem,undef',e2,e3,e14,e15,e16,hi1,decide_eq_true hm,ia82 hlt,le0,k1,wrap64_succ hlt (by omega)]
  exact ⟨ws.length - (i+1),by omega,i+1,acc,v,hlt,rfl,hx,by omega,hfew,hfold,hK,hv.symm,hvh.symm,rfl⟩
 have k1:decide ((e:Int)=(items.length:Int))=true:=decide_eq_true (by omega)
 have hT:TreeAt h' No No ⟨dx,tx,lx⟩ [.string dx,.string tx,.slice A0 lx.length c0]:=(hkv0.tree (d:=dx) (t:=tx)).no.keep (keepsE hx).any
 obtain ⟨_,h4,hs4,rfl,hx4⟩:=among_c hb' hKat.no hT hfew (by omega)
 rw [hv] at hs4
 simp -dsimp only [go_sem,undef',e2,e3,e14,e15,e16,hi1,decide_eq_true hm,ia82 hlt,le0,ll0,k1,hix,hrowk _ hx,List.length_cons,List.length_nil]
 refine ⟨_,h4,hs4,?_⟩
 have hxs4:=hx.trans hx4
 cases ha:anyS acc ⟨dx,tx,lx⟩ with
 | true =>
   have ec:collS items.length many acc ([⟨dx,tx,lx⟩],e)=acc:=by
    simp only [collS]
    rw [if_neg (fun c=>by rw [ha] at c;exact absurd c.2.2 (by simp))]
   rw [ec] at hfold
   simp -dsimp only [go_sem,undef',e2,e3,e14,e15,e16,wrap64_succ hlt (by omega)]
   exact ⟨ws.length - (i+1),by omega,i+1,acc,v,hlt,rfl,hxs4,by omega,hfew,hfold,hK.ext hx4,hv.symm,hvh.symm,rfl⟩
 | false =>
   have ec:collS items.length many acc ([⟨dx,tx,lx⟩],e)=acc++[⟨dx,tx,lx⟩]:=by
    simp only [collS]
    rw [if_pos ⟨he,hm,ha⟩]
   rw [ec] at hfold
   have hb4:h4.base≤h4.next:=by rw [hx4.base];exact Nat.le_trans hb' hx4.next
   obtain ⟨ll4,le4⟩:=ldh _ hxs4
   have hrow:=own_new hb4 31 [.string dx,.string tx,.slice A0 lx.length c0]
   have xw:=Ext.new h4 (CObj.cells ⟨[.string dx,.string tx,.slice A0 lx.length c0],31,0,0,false⟩)
   have hK5:=hK.ext (hx4.trans xw)
   have hxs5:=hxs4.trans xw
   have hb5:=ext_bn (xw.toS (S:=Only 0)) hb4
   obtain ⟨cs1,css1,q1,q2,q3⟩:=hK5
   have Kx:=old_kids q1 (Nat.le_refl _) (Nat.le_refl _) (l:=[]) hxs5 hkv0
   have K1:=kids_new (d:=dx) (t:=tx) hrow (fun c=>c.elim (fun c=>by have:=hx.next;have:=hx4.next;have:h4.next<h0.next:=c;omega) (fun c=>by have:=(hK.ext hx4).kidsLt c;omega)) (fun c=>c.elim (fun c=>c.1 rfl) (fun c=>(q1.flt c).1 rfl)) Kx
   obtain ⟨v',h6,a6,hK6,hext6,hkp6,hoth6⟩:=trees_append ⟨cs1,css1,q1,q2,q3⟩ K1 hb5 hxs5.next hxs5.nfam (by simp only [List.length_cons,List.length_nil];omega)
   have hx6:Ext hs h6:=(hext6 (fun _=>False) hs hxs5.toS (Nat.le_refl _) (Nat.le_refl _)).ext (fun _ _ c=>c)
   have hK6at:=hK6.kids (fun b c=>Nat.lt_of_lt_of_le c hn0) (fun f c=>⟨c.1,Nat.lt_of_lt_of_le c.2 hf0⟩)
   obtain ⟨An,cn,hvn,hspn⟩:=hK6at.slice
   rw [hv,hvn] at a6
   simp -dsimp only [go_sem,undef',e2,e3,e14,e15,e16,ia82 hlt,ll4,hix,hrowk _ hxs4,bs29 1 (by decide),repeatN,builtin',a6,List.length_cons,List.length_nil,wrap64_succ hlt (by omega)]
   exact ⟨ws.length - (i+1),by omega,i+1,_,v',hlt,rfl,hx6,by simp only [List.length_append,List.length_cons,List.length_nil];omega,fun p hp=>(List.mem_append.1 hp).elim (hfew p) (fun c=>by simp at c;subst c;exact hfx),hfold,hK6,hvn.symm,hvh.symm,rfl⟩
set_option maxHeartbeats 4000000 in
set_option maxRecDepth 10000 in
theorem refWays_c {gb go ib io M:Nat} {gcss:Nat→List Value} {many:Int} (hM:M≤50000) (R:RoRules r G Gv gc gb go gcss) (hft:fitsG G) (RI:RoItems r items Iv ic ib io) (hfw:∀(i:Nat) (x:Rule),G[i]? = some x→Few x.body) (rule:ByteArray) (h:Hp) (hrom:h.rom=r) (hb:h.base≤h.next) :
  ∃v h1,Snd Try.prog 22 [.agg #[.slice Gv G.length gc],.string rule,.slice Iv items.length ic,.int .i64 many,.int .i64 (M:Int)] h v h1∧RefWaysP G items rule many M h v h1:=by
 refine snd_go wf Try.func22 rfl rfl (n:=83) rfl (by kernel_rfl) rfl ?_
 intro a hn hg
 have hr:Try.f22.results.toList=[.tmp 10,.tmp 11,.tmp 12]:=rfl
 have g0:=hg 0
 have g1:=hg 1
 have g2:=hg 2
 have g3:=hg 3
 have g4:=hg 4
 clear hg
 simp only [List.getElem?_cons_zero,List.getElem?_cons_succ] at g0 g1 g2 g3 g4
 have hGl:(nms G).length=G.length:=by simp [nms]
 have hG1:=own_new hb 24 [.slice Gv G.length gc]
 have hx0:=Ext.new h (CObj.cells ⟨[.slice Gv G.length gc],24,0,0,false⟩)
 simp -dsimp only [go_sem,g0,g1,g2,g3,g4,next_newH,loads_own hG1]
 generalize (h.newH (CObj.cells ⟨[.slice Gv G.length gc],24,0,0,false⟩))=h2 at hG1 hx0 ⊢
 have hb2:h2.base≤h2.next:=by rw [hx0.base];exact Nat.le_trans hb hx0.next
 have hrom2:h2.rom=r:=hx0.rom.trans hrom
 obtain ⟨_,h3,hs3,hx3,hv3⟩:=refFine_c R hft h2 hrom2 hb2
 refine ⟨_,h3,hs3,?_⟩
 by_cases hrg:rightG G=true
 rotate_left
 ·rw [if_neg hrg] at hv3
  subst hv3
  simp -dsimp only [go_sem,undef',hr]
  exact ⟨hx0.trans hx3,.inl ⟨fun e=>absurd e hrg,rfl⟩⟩
 rw [if_pos hrg] at hv3
 obtain ⟨em,hF,rfl⟩:=hv3
 obtain ⟨hfr,hnm⟩:=rightG_named hrg
 cases hfi:fineB G em with
 | false =>
   simp -dsimp only [go_sem,undef',hr]
   exact ⟨hx0.trans hx3,.inl ⟨fun _=>⟨em,hF,by simp [withB,hfi]⟩,rfl⟩⟩
 | true =>
   have hG3:=own_ext hx3 hG1
   have hrom3:h3.rom=r:=hx3.rom.trans hrom2
   have hb3:h3.base≤h3.next:=by rw [hx3.base];exact Nat.le_trans hb2 hx3.next
   obtain ⟨_,h4,hs4,rfl,hx4⟩:=find_c R rule h3 hrom3 hb3
   rw [findB_idx,Nat.zero_add] at hs4
   simp -dsimp only [go_sem,undef',g1,loads_own hG3]
   refine ⟨_,h4,hs4,?_⟩
   have hx34:=hx3.trans hx4
   have hb4:h4.base≤h4.next:=by rw [hx4.base];exact Nat.le_trans hb3 hx4.next
   by_cases hidx:idxOf (nms G) rule<(nms G).length
   rotate_left
   ·have kk:decide ((-1:Int)<0)=true:=rfl
    simp -dsimp only [go_sem,undef',if_neg hidx,kk,hr]
    rw [hGl] at hidx
    exact ⟨hx0.trans hx34,.inl ⟨fun _=>⟨em,hF,by simp [withB,hidx]⟩,rfl⟩⟩
   have kk:decide (((idxOf (nms G) rule:Nat):Int)<0)=false:=decide_eq_false (by omega)
   have hG4:=own_ext hx34 hG1
   have hXn:=own_new hb4 81 [.slice Gv G.length gc,.slice Iv items.length ic,.int .i64 (M:Int)]
   have hxX:=Ext.new h4 (CObj.cells ⟨[.slice Gv G.length gc,.slice Iv items.length ic,.int .i64 (M:Int)],81,0,0,false⟩)
   simp -dsimp only [go_sem,undef',g1,g2,g3,g4,if_pos hidx,kk,loads_own hG4]
   generalize h4.newH (CObj.cells ⟨[.slice Gv G.length gc,.slice Iv items.length ic,.int .i64 (M:Int)],81,0,0,false⟩)=h5 at hXn hxX ⊢
   have hx5:=hx34.trans hxX
   have hb5:h5.base≤h5.next:=by rw [hxX.base];exact Nat.le_trans hb4 hxX.next
   obtain ⟨v6,h6,hs6,s6,ws,hx6,hX6,hW6,hcase⟩:=(walk_part (G:=G) (items:=items) (Gv:=Gv) (Iv:=Iv) (gc:=gc) (ic:=ic) (xb:=h4.next) R RI hnm hfw M hM).1 (ruleP rule) (named_ruleP hidx) (few_ruleP rule) 0 h5 _ (Nat.zero_le _) (hx5.rom.trans hrom2) hb5 hXn (ro_ruleP r rule)
   have hs6':Snd Try.prog 43 [.pointer (some ⟨h4.next,0,none⟩),.agg #[.string ⟨#[114,117,108,101]⟩,.string rule,.slice none 0 0],.int .i64 0] h5 v6 h6:=hs6
   refine ⟨_,h6,hs6',?_⟩
   have hx26:Ext h2 h6:=(hx5.toS.trans hx6).ext (fun b hb hs=>by
    have:b=h4.next:=hs
    have:=hx34.next
    omega)
   unfold wR at hX6
   have hW:rightG G=true∧∃em,Found G em∧withB G em rule=true:=⟨hrg,em,hF,by rw [hGl] at hidx;simp [withB,hfi,hidx]⟩
   obtain ⟨A6,hv6,hsp6⟩:=hW6.slice
   rcases hcase with ⟨k6,o6,hrun,hss,hsp6',rfl⟩|⟨hneg,hlw,_⟩
   rotate_left
   ·have hge:decide (s6<0)=true:=decide_eq_true hneg
    rw [hv6]
    simp -dsimp only [go_sem,undef',load_own hX6,hge,hr]
    exact ⟨hx0.trans hx26,.inr ⟨hW,.inl rfl⟩⟩
   have hge:decide (s6<0)=false:=decide_eq_false (by omega)
   have hlen:=runW_len _ _ _ hrun
   have hsl:slackW (.part (ruleP rule) 0)=0:=rfl
   have hok:=runW_ok rfl _ _ _ 0 hrun (by exact ⟨Nat.zero_le _,rfl⟩) (by omega)
   have hone:∀w∈o6.1,∃x,w.1=[x]∧Few x:=fun w hw=>by
    obtain ⟨ks,hks⟩:=runW_ruleP hrun w hw
    exact ⟨_,hks,(hok w hw).2.2 _ (by rw [hks];exact .head _)⟩
   have hb6:=ext_bn hx26.toS hb2 (S:=fun _=>False)
   rw [hv6]
   simp -dsimp only [go_sem,undef',load_own hX6,hge]
   refine gather_c (items:=items) (Iv:=Iv) (ic:=ic) (h0:=h5) (many:=many) hb6 hx6.next hx6.nfam hW6 hone (by omega) (by simp -dsimp only [go_sem,hn]) (by simp -dsimp only [go_sem,g2]) (by simp -dsimp only [go_sem,g3]) (by simp -dsimp only [go_sem]) (by simp -dsimp only [go_sem,hv6]) (by simp -dsimp only [go_sem]) (fun a1 h7 v' r_n hx7 hK7 r14 => ?_)
   obtain ⟨An,cn,hvn,hspn⟩:=hK7.slice
   rw [hvn] at r14
   simp -dsimp only [go_sem,r14,hr]
   refine ⟨hx0.trans (hx26.trans hx7),.inr ⟨hW,.inr ⟨k6,o6,hrun,by omega,v',by rw [hvn],?_⟩⟩⟩
   exact hK7.more (fun b _ c=>Nat.lt_of_lt_of_le c (hx0.trans hx5).next) (fun f c=>.inl ⟨c.1,Nat.lt_of_lt_of_le c.2 (hx0.trans hx5).nfam⟩)
end Go.Ev.G24
end
section
namespace Go.Ev.G24
open Go.RowKit Go.Proofs
variable {r:Ro} {G:List Rule} {items:List ByteArray} {Gv Iv:Option Addr} {gc ic xb bk:Nat} {B F:Nat→Prop}
@[go_sem] theorem eql_nil29 (h : Hp) (x y : Operand) (A : Option Addr) (n c : Nat) : binOp' Try.prog h .eql 29 x y (.slice A n c) (.slice none 0 0) = some (.bool A.isNone) := by
 cases A<;>simp only [binOp',nilsApart,eqv,Try.underlying29]<;>rfl
theorem empt_own2 {h:Hp} (hb:h.base≤h.next):KidsO (h.newH (CObj.cells ⟨[],31,0,0,false⟩)) h.next h.nfam B F [] (.slice (some ⟨h.next,0,none⟩) 0 0):=by
 have o:=own_new hb 31 []
 exact ⟨[],fun _=>[],.inr ⟨h.next,0,rfl,⟨o.1,o.2.1,⟨0,false,row_own o⟩,fun c=>absurd rfl c⟩,rfl,Nat.le_refl _,fun c=>absurd rfl c⟩,fun i p hp=>by simp at hp,fun i p hp=>by simp at hp⟩
theorem trees_old {h0 h:Hp} {n0 f0:Nat} {l ks:List Part} {v w:Value} (k:KidsO h n0 f0 B F l v) (hn:h0.next≤n0) (hf:h0.nfam≤f0) (x:Ext h0 h) (K:KidsAt h0 B F ks w) (hb:h.base≤h.next) (hn0:n0≤h.next) (hf0:f0≤h.nfam) (hsz:l.length+ks.length≤1000000) :
  ∃v' h',append' Try.prog h [29,29] [v,w]=some (v',h')∧KidsO h' n0 f0 B F (l++ks) v'∧(∀(S:Nat→Prop) (h0:Hp),ExtS S h0 h→h0.next≤n0→h0.nfam≤f0→ExtS S h0 h')∧Keeps (ownB v) (ownF h v) h h'∧(∀b' e' c',e'≠31→h.own b' e' c'→h'.own b' e' c'):=by
 obtain ⟨cs,css,k1,k2,k3⟩:=k
 exact trees_append ⟨cs,css,k1,k2,k3⟩ (old_kids k1 hn hf (l:=[]) x K) hb hn0 hf0 hsz
set_option maxHeartbeats 4000000 in
set_option maxRecDepth 10000 in
theorem clone_c {h:Hp} {ka:List Part} {va:Value} (hb:h.base≤h.next) (Ka:KidsAt h B F ka va) (hs:ka.length≤1000000) :
  ∃v1 h1,Snd Try.prog 118 [va] h v1 h1∧Ext h h1∧KidsO h1 h.next h.nfam B F ka v1:=by
 obtain ⟨A,c,hva,hsp⟩:=Ka.slice
 subst hva
 refine snd_go wf Try.func118 rfl rfl (n:=8) rfl (by kernel_rfl) rfl ?_
 intro a hn hg
 have hr:Try.f118.results.toList=[.tmp 2]:=rfl
 have g0:=hg 0
 clear hg
 simp only [List.getElem?_cons_zero,List.getElem?_cons_succ] at g0
 cases A with
 | none =>
   have hka:ka=[]:=by
    obtain ⟨A1,c1,b1,o1,f1,row1,css1,e1,_,_,hA1,_⟩:=Ka
    cases ka with
    | nil=>rfl
    | cons x l =>
      have:=(hA1 (by simp)).1
      cases e1
      cases this
   subst hka
   simp -dsimp only [go_sem,g0,Option.isNone_none,hr]
   exact ⟨Ext.refl _,nil_own⟩
 | some A =>
   have x1:=Ext.new h (CObj.cells ⟨[],31,0,0,false⟩)
   obtain ⟨v1,h1,a1,k1,ex1,kp1,_⟩:=trees_old (empt_own2 (B:=B) (F:=F) hb) (Nat.le_refl _) (Nat.le_refl _) x1 Ka (Nat.le_succ_of_le hb) x1.next x1.nfam (by simpa using hs)
   have hx1:Ext h h1:=(ex1 (fun _=>False) h x1.toS (Nat.le_refl _) (Nat.le_refl _)).ext (fun _ _ c=>c)
   simp -dsimp only [go_sem,g0,Option.isNone_some,bs29 0 (by decide),repeatN,builtin',a1,hr]
   exact ⟨hx1,by simpa using k1⟩
def outV (e:Nat) (kv:Value):Value:=.agg #[.bool true,.int .i64 (e:Int),kv]
set_option maxHeartbeats 4000000 in
set_option maxRecDepth 10000 in
theorem joined_c {h:Hp} {ka kb:List Part} {va vb:Value} {ea eb:Nat} (hb:h.base≤h.next) (Ka:KidsAt h B F ka va) (Kb:KidsAt h B F kb vb) (hBn:∀b,B b→b<h.next) (hFn:∀f,F f→f≠0∧f<h.nfam) (hs:ka.length+kb.length≤1000000) :
  ∃v1 h1,Snd Try.prog 100 [outV ea va,outV eb vb] h v1 h1∧Ext h h1∧∃kv,v1=outV eb kv∧KidsAt h1 B F (ka++kb) kv:=by
 obtain ⟨A,c,hva,hsp⟩:=Ka.slice
 obtain ⟨Ab,cb,hvb,hspb⟩:=Kb.slice
 refine snd_go wf Try.func100 rfl rfl (n:=14) rfl (by kernel_rfl) rfl ?_
 intro a hn hg
 have hr:Try.f100.results.toList=[.cell 4 75]:=rfl
 have g0:=hg 0
 have g1:=hg 1
 clear hg
 simp only [List.getElem?_cons_zero,List.getElem?_cons_succ] at g0 g1
 unfold outV at g0 g1
 have hP:=own_new hb 75 [.bool true,.int .i64 (ea:Int),va]
 have x0:=Ext.new h (CObj.cells ⟨[.bool true,.int .i64 (ea:Int),va],75,0,0,false⟩)
 have hb0:=ext_bn (x0.toS (S:=Only 0)) hb
 have hQ:=own_new hb0 75 [.bool true,.int .i64 (eb:Int),vb]
 have x1:=Ext.new (h.newH (CObj.cells ⟨[.bool true,.int .i64 (ea:Int),va],75,0,0,false⟩)) (CObj.cells ⟨[.bool true,.int .i64 (eb:Int),vb],75,0,0,false⟩)
 have hb1:=ext_bn (x1.toS (S:=Only 0)) hb0
 have hP1:=own_ext x1 hP
 have hZ:=own_new hb1 75 [.bool false,.int .i64 0,.slice none 0 0]
 have x2:=Ext.new ((h.newH (CObj.cells ⟨[.bool true,.int .i64 (ea:Int),va],75,0,0,false⟩)).newH (CObj.cells ⟨[.bool true,.int .i64 (eb:Int),vb],75,0,0,false⟩)) (CObj.cells ⟨[.bool false,.int .i64 0,.slice none 0 0],75,0,0,false⟩)
 have hP2:=own_ext x2 hP1
 have hQ2:=own_ext x2 hQ
 have hx:=x0.trans (x1.trans x2)
 simp -dsimp only [go_sem,g0,g1,next_newH]
 simp only [next_newH] at hQ2 hZ
 generalize ((h.newH (CObj.cells ⟨[.bool true,.int .i64 (ea:Int),va],75,0,0,false⟩)).newH (CObj.cells ⟨[.bool true,.int .i64 (eb:Int),vb],75,0,0,false⟩)).newH (CObj.cells ⟨[.bool false,.int .i64 0,.slice none 0 0],75,0,0,false⟩)=h2 at hP2 hQ2 hZ hx ⊢
 clear hP hQ hP1 x0 x1 x2
 have hb2:h2.base≤h2.next:=by rw [hx.base];exact Nat.le_trans hb hx.next
 have Ka2:=Ka.keep (keepsE hx).any
 have Kb2:=Kb.keep (keepsE hx).any
 obtain ⟨v1,h1,hs1,hx1,hK1⟩:=clone_c hb2 Ka2 (by omega)
 have hb1':h1.base≤h1.next:=by rw [hx1.base];exact Nat.le_trans hb2 hx1.next
 obtain ⟨v3,h3,a3,k3,ex3,kp3,hoth3⟩:=trees_old hK1 (Nat.le_refl _) (Nat.le_refl _) hx1 Kb2 hb1' hx1.next hx1.nfam (by omega)
 have hx3:Ext h2 h3:=(ex3 (fun _=>False) h2 hx1.toS (Nat.le_refl _) (Nat.le_refl _)).ext (fun _ _ c=>c)
 have hb3:h3.base≤h3.next:=by rw [hx3.base];exact Nat.le_trans hb2 hx3.next
 have hK3:=k3.kids (fun b c=>Nat.lt_of_lt_of_le (hBn b c) hx.next) (fun f c=>⟨(hFn f c).1,Nat.lt_of_lt_of_le (hFn f c).2 hx.nfam⟩)
 obtain ⟨A1,c1,hv1,hsp1⟩:=(hK1.kids (fun b c=>Nat.lt_of_lt_of_le (hBn b c) hx.next) (fun f c=>⟨(hFn f c).1,Nat.lt_of_lt_of_le (hFn f c).2 hx.nfam⟩)).slice
 obtain ⟨A3,c3,hv3,hsp3⟩:=hK3.slice
 have hZ3:=own_ext hx3 hZ
 have hst:=stores_own hZ3 (o:=0) (vs:=[.bool true,.int .i64 (eb:Int),v3]) (c1:=[.bool true,.int .i64 (eb:Int),v3]) (by rw [hv3];rfl) rfl (by simp)
 have hZ4:=own_put_same hZ3 [.bool true,.int .i64 (eb:Int),v3]
 have hx4:Ext h (h3.put (h.next+1+1) (.cells ⟨[.bool true,.int .i64 (eb:Int),v3],75,0,0,false⟩)):=(hx.trans hx3).put (b:=h.next+1+1) (by omega) _
 have hk4:=hK3.keep (keepsN (S:=Only (h.next+1+1)) (((Ext.refl h3).toS (S:=Only (h.next+1+1))).put (b:=h.next+1+1) (.inr rfl) (.cells ⟨[.bool true,.int .i64 (eb:Int),v3],75,0,0,false⟩)) (noRow_own hZ3 (by decide))).any
 have hP1:=own_ext hx1 hP2
 have hQ1:=own_ext hx1 hQ2
 have hP3:=own_ext hx3 hP2
 have hQ3:=own_ext hx3 hQ2
 rw [hv1] at hs1 a3
 rw [hv3] at a3 hst hZ4 hx4 hk4
 have hs1':=hs1
 rw [hva] at hs1'
 rw [hvb] at a3
 refine Dw_text (n:=14) [[],[0],[],[2],[2,3],[],[5],[2,3,4,5,6],[0,1,2,3,4,5,6,7],[0,1,2,3,4,5,6,7,8]] (by simp -dsimp only [go_sem,hn]) (by kernel_rfl) ?_
 simp -dsimp only [go_sem,load_own hP2,load_own hQ2,hva,hvb,sameN_sliceA hsp,sameN_sliceA hspb]
 refine ⟨_,h1,hs1',?_⟩
 simp -dsimp only [go_sem,load_own hP2,load_own hQ2,load_own hP1,load_own hQ1,load_own hP3,load_own hQ3,hva,hvb,sameN_sliceA hsp,sameN_sliceA hspb,sameN_sliceA hsp1,sameN_sliceA hsp3,builtin',a3,hst,loads_own hZ4,hr]
 refine ⟨hx4,v3,by rw [hv3];rfl,?_⟩
 rw [hv3]
 exact hk4
end Go.Ev.G24
end
section
namespace Go.Ev.G24
open Go.RowKit Go.Proofs
variable {r:Ro} {G:List Rule} {items:List ByteArray} {Gv Iv:Option Addr} {gc ic xb bk:Nat}
def sR (items:List ByteArray) (Iv:Option Addr) (ic bk:Nat) (n:Nat):List Value:=[.pointer (some ⟨bk,0,none⟩),.slice Iv items.length ic,.int .i64 (n:Int)]
abbrev WS (h:Hp) (n0 f0:Nat) (B F:Nat→Prop) (ws:List Way) (v:Value):Prop:=WaysAt encP 75 3 h n0 f0 B F ws v
theorem WaysAt.getP {h:Hp} {n0 f0:Nat} {B F:Nat→Prop} {ws:List Way} {v:Value} (k:WS h n0 f0 B F ws v) {i:Nat} {w:Way} (hi:ws[i]? = some w):∃b A c,v=.slice (some ⟨b,0,none⟩) ws.length ws.length∧spotless A=true∧KidsAt h (fun x=>B x∨ownB v x) (fun q=>F q∨ownF h v q) w.1 (.slice A w.1.length c) ∧
  ∀(S:Nat→Prop) (h1:Hp),ExtS S h h1→(∀b,ownB v b→¬S b)→h1.loads ⟨b,i*3,none⟩ 3=some [.bool true,.int .i64 (w.2:Int),.slice A w.1.length c]:=by
 obtain ⟨cs,k1,k2⟩:=k
 obtain ⟨kv,a1,a2⟩:=k2 i w hi
 obtain ⟨A,c,rfl,hsp⟩:=a2.slice
 rcases k1 with ⟨h0,_⟩|⟨b,f,rfl,hr,_⟩
 ·have:=get_lt' hi;omega
 ·refine ⟨b,A,c,rfl,hsp,a2,fun S h1 x hS => ?_⟩
  rw [rowE_loads (rowE_keep x hr (hS b rfl)),a1]
  rfl
theorem consW_succ {ks:List Part} {wr:List Way} {j:Nat} {w:Way} (hj:wr[j]? = some w):consW ks (wr.take (j+1))=consW ks (wr.take j)++[(ks++w.1,w.2)]:=by
 unfold consW
 exact take_map_succ (fun r:Way=>(ks++r.1,r.2)) hj
set_option maxHeartbeats 8000000 in
set_option maxRecDepth 10000 in
theorem join_inner73 {h0 hh hs:Hp} {nr fr:Nat} {wo wr:List Way} {vo vr va:Value} {ks:List Part} {ea n pa:Nat} (hb:h0.base≤h0.next) (hx0:ExtS (Only xb) h0 hh) (hxn:xb<h0.next) (hXh:NoRow hh (Only xb)) (hx:ExtS (Only xb) hh hs) (hX:hs.own xb 92 (sR items Iv ic bk n))
  (hK:KidsAt hh (OldB h0) (OldF h0) ks va) (hO:WS hs hh.next hh.nfam (OldB h0) (OldF h0) wo vo) (hR:WS hs nr fr (fun x=>OldB h0 x∨ownB vo x) (fun q=>OldF h0 q∨ownF hs vo q) wr vr) (hDR:Beside hs vr vo) (hpa:RowE 75 hs pa [.bool true,.int .i64 (ea:Int),va] 0) (hpx:pa≠xb) (hpv:¬ownB vo pa)
  (hks:ks.length≤200000) (hrs:∀w∈wr,w.1.length≤200000) (hlen:wo.length+wr.length≤500000)
  {a:Ev.A} {Q:Ex→Ev.A→Hp→Prop} {x0 x1 x23 x24 x25:Value} (hn:a.n=49) (g0:a.get 0=x0) (g1:a.get 1=x1) (g23:a.get 23=x23) (g24:a.get 24=x24) (g25:a.get 25=x25) (g7:a.get 7=vo) (g9:a.get 9=.pointer (some ⟨pa,0,none⟩)) (g34:a.get 34=vr) (g35:a.get 35=.int .i64 (wr.length:Int)) (g36:a.get 36=.int .i64 0)
  (hq:∀a1 h1 vo',a1.n=49→ExtS (Only xb) hh h1→hs.next≤h1.next→h1.own xb 92 (sR items Iv ic bk n)→WS h1 hh.next hh.nfam (OldB h0) (OldF h0) (wo++consW ks wr) vo'→a1.get 0=x0→a1.get 1=x1→a1.get 23=x23→a1.get 24=x24→a1.get 25=x25→a1.get 7=vo'→Q (.exit 2) a1 h1) :
  Th Try.prog (bodyAt Try.f73 [1,1,1,0,1,0,0,1,1,0,0,1,1,0]) a hs Q ⟨⟩ ⟨⟩:=by
 obtain ⟨Ar,hvr,hspr⟩:=hR.slice
 obtain ⟨Aa,ca,hva,hspa⟩:=hK.slice
 have hbh:hh.base≤hh.next:=ext_bn hx0 hb
 simp only [bodyAt,nav,Try.f73]
 refine loop_go (n:=49) (by kernel_rfl) (fun m' a' h'=>∃(j:Nat) (v:Value),j≤wr.length∧m'=wr.length - j∧ExtS (Only xb) hh h'∧hs.next≤h'.next∧h'.own xb 92 (sR items Iv ic bk n)∧WS h' hh.next hh.nfam (OldB h0) (OldF h0) (wo++consW ks (wr.take j)) v∧WS h' nr fr (fun x=>OldB h0 x∨ownB v x) (fun q=>OldF h0 q∨ownF h' v q) wr vr∧Beside h' vr v∧RowE 75 h' pa [.bool true,.int .i64 (ea:Int),va] 0∧¬ownB v pa ∧
  a'.get 0=x0∧a'.get 1=x1∧a'.get 23=x23∧a'.get 24=x24∧a'.get 25=x25∧a'.get 7=v∧a'.get 9=.pointer (some ⟨pa,0,none⟩)∧a'.get 34=vr∧a'.get 35=.int .i64 (wr.length:Int)∧a'.get 36=.int .i64 j) ?_ wr.length _ _ hn ⟨0,vo,Nat.zero_le _,rfl,hx,Nat.le_refl _,hX,by simpa [consW] using hO,hR,hDR,hpa,hpv,g0,g1,g23,g24,g25,g7,g9,g34,g35,g36⟩
 rintro m' a' h' hn' ⟨j,v,hj,rfl,hx',hnx',hX',hO',hR',hDR',hpa',hpv',e0,e1,e23,e24,e25,e7,e9,e34,e35,e36⟩
 have hb':h'.base≤h'.next:=ext_bn hx' hbh
 by_cases hlt:j<wr.length
 rotate_left
 ·have hi0:decide ((j:Int)<(wr.length:Int))=false:=decide_eq_false (by omega)
  have hjl:j=wr.length:=by omega
  subst hjl
  rw [List.take_length] at hO'
  simp -dsimp only [go_sem,e0,e1,e23,e24,e25,e7,e9,e34,e35,e36,hi0]
  exact hq _ h' v (by simp -dsimp only [go_sem,hn']) hx' hnx' hX' hO' (by simp -dsimp only [go_sem,e0]) (by simp -dsimp only [go_sem,e1]) (by simp -dsimp only [go_sem,e23]) (by simp -dsimp only [go_sem,e24]) (by simp -dsimp only [go_sem,e25]) (by simp -dsimp only [go_sem,e7])
 have hi1:decide ((j:Int)<(wr.length:Int))=true:=decide_eq_true (Int.ofNat_lt.2 hlt)
 obtain ⟨⟨kr,eb⟩,hwj⟩:∃w,wr[j]? = some w:=⟨_,List.getElem?_eq_getElem hlt⟩
 have hkr:kr.length≤200000:=hrs _ (List.mem_of_getElem? hwj)
 obtain ⟨br,Ark,crk,hvr2,hsprk,Kr,ldr⟩:=hR'.getP hwj
 have ld0:h'.loads ⟨br,j*3,none⟩ 3=some [.bool true,.int .i64 (eb:Int),.slice Ark kr.length crk]:=ldr (fun _=>False) h' (Ext.refl h').toS (fun _ _ c=>c)
 obtain ⟨vS,vO,vX,vB,vR⟩:=var_ok hb' (e:=75) (c0:=[.bool false,.int .i64 0,.slice none 0 0]) (c1:=[.bool true,.int .i64 (eb:Int),.slice Ark kr.length crk]) rfl rfl (by simp)
 rw [hvr2] at e34
 simp -dsimp only [go_sem,e0,e1,e23,e24,e25,e7,e9,e34,e35,e36,hi1,ia93 hlt,ld0,vS]
 generalize h'.var 75 [.bool false,.int .i64 0,.slice none 0 0] [.bool true,.int .i64 (eb:Int),.slice Ark kr.length crk]=h2 at vO vX vB vR ⊢
 clear vS
 have hx2:ExtS (Only xb) hh h2:=hx'.trans vX.toS
 have hO2:=hO'.ext vX
 have hpa2:=rowE_keep (S:=fun _=>False) vX.toS hpa' (fun c=>c)
 have Ka:KidsAt h2 (fun x=>OldB h0 x∨ownB v x) (fun q=>OldF h0 q∨ownF h2 v q) ks va:=(hK.more (B':=fun x=>OldB h0 x∨ownB v x) (F':=fun q=>OldF h0 q∨ownF h2 v q) (fun b hb c=>c.elim id (fun c=>by have:=(hO2.lt c).1;omega)) (fun f c=>c.elim .inl (fun c=>.inr ⟨(hO2.flt c).1,(hO2.flt c).2.1⟩))).keep (keepsN hx2 hXh).any
 have Kb:KidsAt h2 (fun x=>OldB h0 x∨ownB v x) (fun q=>OldF h0 q∨ownF h2 v q) kr (.slice Ark kr.length crk):=((Kr.more (B':=fun x=>OldB h0 x∨ownB v x) (F':=fun q=>OldF h0 q∨ownF h' v q) (fun b _ c=>.inl c) (fun f c=>.inl (.inl c))).keep (keepsE vX).any).more (fun b _ c=>c) (fun f c=>.inl (c.elim .inl (fun c=>.inr (hO'.ownF_same (S:=fun _=>False) vX.toS (fun _ _ c=>c) c))))
 obtain ⟨_,h5,hs5,hx5,kvj,rfl,Kj⟩:=joined_c (ea:=ea) (eb:=eb) vB Ka Kb (fun b c=>c.elim (fun c=>Nat.lt_of_lt_of_le c (Nat.le_trans hx0.next hx2.next)) (fun c=>(hO2.lt c).2)) (fun f c=>c.elim (fun c=>⟨c.1,Nat.lt_of_lt_of_le c.2 (Nat.le_trans hx0.nfam hx2.nfam)⟩) (fun c=>⟨(hO2.flt c).1,(hO2.flt c).2.2⟩)) (by omega)
 obtain ⟨Aj,cj,hvj,hspj⟩:=Kj.slice
 have hb5:h5.base≤h5.next:=by rw [hx5.base];exact Nat.le_trans vB hx5.next
 have hW:=own_new hb5 75 (encP kvj eb)
 have x6:=Ext.new h5 (CObj.cells { c:=encP kvj eb,e:=75,fam:=0,base:=0,grown:=false })
 have x26:=hx5.trans x6
 have hO6:=hO2.ext x26
 have hxh6:=hx2.trans x26.toS
 have K6:KidsAt (h5.newH (CObj.cells { c:=encP kvj eb,e:=75,fam:=0,base:=0,grown:=false })) (fun x=>OldB h0 x∨ownB v x) (fun q=>OldF h0 q∨ownF (h5.newH (CObj.cells { c:=encP kvj eb,e:=75,fam:=0,base:=0,grown:=false })) v q) (ks++kr) kvj :=
  (Kj.keep (keepsE x6).any).more (fun b _ c=>c) (fun f c=>.inl (c.elim .inl (fun c=>.inr (hO2.ownF_same (S:=fun _=>False) x26.toS (fun _ _ c=>c) c))))
 have hlo:(wo++consW ks (wr.take j)).length+1≤1000000:=by
  unfold consW
  rw [List.length_append,List.length_map,List.length_take]
  omega
 obtain ⟨v',h7,a7,hO7,hext7,hkp7,hoth7,hB7,hF7,hke7⟩:=ways_one apP mkP hO6 hW K6 (ext_bn hxh6 hbh) hxh6.next hxh6.nfam hlo
 have hx7:=hext7 (Only xb) hh hxh6 (Nat.le_refl _) (Nat.le_refl _)
 have x06:=vX.trans x26
 have hu0:¬ownF _ v 0:=fun c=>(hO6.flt c).1 rfl
 have hR6:=(hR'.ext x06).more (B':=fun y=>OldB h0 y∨ownB v y) (F':=fun q=>OldF h0 q∨ownF (h5.newH (CObj.cells { c:=encP kvj eb,e:=75,fam:=0,base:=0,grown:=false })) v q) (fun b _ c=>c) (fun f c=>.inl (c.elim .inl (fun c=>.inr (hO'.ownF_same (S:=fun _=>False) x06.toS (fun _ _ c=>c) c))))
 have hDR6:Beside (h5.newH (CObj.cells { c:=encP kvj eb,e:=75,fam:=0,base:=0,grown:=false })) vr v:=⟨hDR'.1,fun f c c'=>hDR'.2 f (hR'.ownF_same (S:=fun _=>False) x06.toS (fun _ _ c=>c) c) (hO'.ownF_same (S:=fun _=>False) x06.toS (fun _ _ c=>c) c')⟩
 obtain ⟨hR7,hDR7⟩:=hR6.beside hDR6 hu0 hkp7 hke7 hB7 hF7 (fun q c=>(hO7.flt c).1)
 have hpa6:=rowE_keep (S:=fun _=>False) x26.toS hpa2 (fun c=>c)
 have hpa7:=hke7 _ _ _ _ hpa6 hpv' hu0
 have hpv7:¬ownB v' pa:=fun c=>(hB7 pa c).elim hpv' (fun c=>by have:=hpa6.lt;omega)
 have hX7:=hoth7 _ _ _ (by decide) (own_ext x06 hX')
 have hs5':=hs5
 unfold outV at hs5'
 rw [hva] at hs5' hpa2
 unfold encP at a7
 rw [hvj] at hs5' a7
 simp -dsimp only [go_sem,e0,e1,e23,e24,e25,e7,e9,e34,e35,e36,rowE_loads hpa2,loads_own vO]
 refine ⟨_,h5,hs5',?_⟩
 simp -dsimp only [go_sem,e0,e1,e23,e24,e25,e7,e9,e34,e35,e36,bs93 1 (by decide),repeatN,builtin',a7,wrap64_succ hlt (by omega)]
 exact ⟨wr.length - (j+1),by omega,j+1,v',hlt,rfl,hx7,Nat.le_trans hnx' (Nat.le_trans x06.next hkp7.next),hX7,by rw [consW_succ hwj,←List.append_assoc];exact hO7,hR7,hDR7,hpa7,hpv7,rfl,hvr2.symm,rfl⟩
set_option maxHeartbeats 8000000 in
set_option maxRecDepth 10000 in
theorem join_inner74 {h0 hh hs:Hp} {nr fr:Nat} {wo wr:List Way} {vo vr va:Value} {ks:List Part} {ea n pa:Nat} {pb:Nat} {pc:List Value} (hb:h0.base≤h0.next) (hx0:ExtS (Only xb) h0 hh) (hxn:xb<h0.next) (hXh:NoRow hh (Only xb)) (hx:ExtS (Only xb) hh hs) (hX:hs.own xb 92 (sR items Iv ic bk n)) (hP:hs.own pb 52 pc)
  (hK:KidsAt hh (OldB h0) (OldF h0) ks va) (hO:WS hs hh.next hh.nfam (OldB h0) (OldF h0) wo vo) (hR:WS hs nr fr (fun x=>OldB h0 x∨ownB vo x) (fun q=>OldF h0 q∨ownF hs vo q) wr vr) (hDR:Beside hs vr vo) (hpa:RowE 75 hs pa [.bool true,.int .i64 (ea:Int),va] 0) (hpx:pa≠xb) (hpv:¬ownB vo pa)
  (hks:ks.length≤200000) (hrs:∀w∈wr,w.1.length≤200000) (hlen:wo.length+wr.length≤500000)
  {a:Ev.A} {Q:Ex→Ev.A→Hp→Prop} {x0 x2 x4 x15 x16 x17:Value} (hn:a.n=44) (g0:a.get 0=x0) (g2:a.get 2=x2) (g4:a.get 4=x4) (g15:a.get 15=x15) (g16:a.get 16=x16) (g17:a.get 17=x17) (g7:a.get 7=vo) (g9:a.get 9=.pointer (some ⟨pa,0,none⟩)) (g25:a.get 25=vr) (g26:a.get 26=.int .i64 (wr.length:Int)) (g27:a.get 27=.int .i64 0)
  (hq:∀a1 h1 vo',a1.n=44→ExtS (Only xb) hh h1→hs.next≤h1.next→h1.own xb 92 (sR items Iv ic bk n)→h1.own pb 52 pc→WS h1 hh.next hh.nfam (OldB h0) (OldF h0) (wo++consW ks wr) vo'→a1.get 0=x0→a1.get 2=x2→a1.get 4=x4→a1.get 15=x15→a1.get 16=x16→a1.get 17=x17→a1.get 7=vo'→Q (.exit 2) a1 h1) :
  Th Try.prog (bodyAt Try.f74 [1,1,0,1,0,0,1,1,0,0,1,1,0]) a hs Q ⟨⟩ ⟨⟩:=by
 obtain ⟨Ar,hvr,hspr⟩:=hR.slice
 obtain ⟨Aa,ca,hva,hspa⟩:=hK.slice
 have hbh:hh.base≤hh.next:=ext_bn hx0 hb
 simp only [bodyAt,nav,Try.f74]
 refine loop_go (n:=44) (by kernel_rfl) (fun m' a' h'=>∃(j:Nat) (v:Value),j≤wr.length∧m'=wr.length - j∧ExtS (Only xb) hh h'∧hs.next≤h'.next∧h'.own xb 92 (sR items Iv ic bk n)∧h'.own pb 52 pc∧WS h' hh.next hh.nfam (OldB h0) (OldF h0) (wo++consW ks (wr.take j)) v∧WS h' nr fr (fun x=>OldB h0 x∨ownB v x) (fun q=>OldF h0 q∨ownF h' v q) wr vr∧Beside h' vr v∧RowE 75 h' pa [.bool true,.int .i64 (ea:Int),va] 0∧¬ownB v pa ∧
  a'.get 0=x0∧a'.get 2=x2∧a'.get 4=x4∧a'.get 15=x15∧a'.get 16=x16∧a'.get 17=x17∧a'.get 7=v∧a'.get 9=.pointer (some ⟨pa,0,none⟩)∧a'.get 25=vr∧a'.get 26=.int .i64 (wr.length:Int)∧a'.get 27=.int .i64 j) ?_ wr.length _ _ hn ⟨0,vo,Nat.zero_le _,rfl,hx,Nat.le_refl _,hX,hP,by simpa [consW] using hO,hR,hDR,hpa,hpv,g0,g2,g4,g15,g16,g17,g7,g9,g25,g26,g27⟩
 rintro m' a' h' hn' ⟨j,v,hj,rfl,hx',hnx',hX',hP',hO',hR',hDR',hpa',hpv',e0,e2,e4,e15,e16,e17,e7,e9,e25,e26,e27⟩
 have hb':h'.base≤h'.next:=ext_bn hx' hbh
 by_cases hlt:j<wr.length
 rotate_left
 ·have hi0:decide ((j:Int)<(wr.length:Int))=false:=decide_eq_false (by omega)
  have hjl:j=wr.length:=by omega
  subst hjl
  rw [List.take_length] at hO'
  simp -dsimp only [go_sem,e0,e2,e4,e15,e16,e17,e7,e9,e25,e26,e27,hi0]
  exact hq _ h' v (by simp -dsimp only [go_sem,hn']) hx' hnx' hX' hP' hO' (by simp -dsimp only [go_sem,e0]) (by simp -dsimp only [go_sem,e2]) (by simp -dsimp only [go_sem,e4]) (by simp -dsimp only [go_sem,e15]) (by simp -dsimp only [go_sem,e16]) (by simp -dsimp only [go_sem,e17]) (by simp -dsimp only [go_sem,e7])
 have hi1:decide ((j:Int)<(wr.length:Int))=true:=decide_eq_true (Int.ofNat_lt.2 hlt)
 obtain ⟨⟨kr,eb⟩,hwj⟩:∃w,wr[j]? = some w:=⟨_,List.getElem?_eq_getElem hlt⟩
 have hkr:kr.length≤200000:=hrs _ (List.mem_of_getElem? hwj)
 obtain ⟨br,Ark,crk,hvr2,hsprk,Kr,ldr⟩:=hR'.getP hwj
 have ld0:h'.loads ⟨br,j*3,none⟩ 3=some [.bool true,.int .i64 (eb:Int),.slice Ark kr.length crk]:=ldr (fun _=>False) h' (Ext.refl h').toS (fun _ _ c=>c)
 obtain ⟨vS,vO,vX,vB,vR⟩:=var_ok hb' (e:=75) (c0:=[.bool false,.int .i64 0,.slice none 0 0]) (c1:=[.bool true,.int .i64 (eb:Int),.slice Ark kr.length crk]) rfl rfl (by simp)
 rw [hvr2] at e25
 simp -dsimp only [go_sem,e0,e2,e4,e15,e16,e17,e7,e9,e25,e26,e27,hi1,ia93 hlt,ld0,vS]
 generalize h'.var 75 [.bool false,.int .i64 0,.slice none 0 0] [.bool true,.int .i64 (eb:Int),.slice Ark kr.length crk]=h2 at vO vX vB vR ⊢
 clear vS
 have hx2:ExtS (Only xb) hh h2:=hx'.trans vX.toS
 have hO2:=hO'.ext vX
 have hpa2:=rowE_keep (S:=fun _=>False) vX.toS hpa' (fun c=>c)
 have Ka:KidsAt h2 (fun x=>OldB h0 x∨ownB v x) (fun q=>OldF h0 q∨ownF h2 v q) ks va:=(hK.more (B':=fun x=>OldB h0 x∨ownB v x) (F':=fun q=>OldF h0 q∨ownF h2 v q) (fun b hb c=>c.elim id (fun c=>by have:=(hO2.lt c).1;omega)) (fun f c=>c.elim .inl (fun c=>.inr ⟨(hO2.flt c).1,(hO2.flt c).2.1⟩))).keep (keepsN hx2 hXh).any
 have Kb:KidsAt h2 (fun x=>OldB h0 x∨ownB v x) (fun q=>OldF h0 q∨ownF h2 v q) kr (.slice Ark kr.length crk):=((Kr.more (B':=fun x=>OldB h0 x∨ownB v x) (F':=fun q=>OldF h0 q∨ownF h' v q) (fun b _ c=>.inl c) (fun f c=>.inl (.inl c))).keep (keepsE vX).any).more (fun b _ c=>c) (fun f c=>.inl (c.elim .inl (fun c=>.inr (hO'.ownF_same (S:=fun _=>False) vX.toS (fun _ _ c=>c) c))))
 obtain ⟨_,h5,hs5,hx5,kvj,rfl,Kj⟩:=joined_c (ea:=ea) (eb:=eb) vB Ka Kb (fun b c=>c.elim (fun c=>Nat.lt_of_lt_of_le c (Nat.le_trans hx0.next hx2.next)) (fun c=>(hO2.lt c).2)) (fun f c=>c.elim (fun c=>⟨c.1,Nat.lt_of_lt_of_le c.2 (Nat.le_trans hx0.nfam hx2.nfam)⟩) (fun c=>⟨(hO2.flt c).1,(hO2.flt c).2.2⟩)) (by omega)
 obtain ⟨Aj,cj,hvj,hspj⟩:=Kj.slice
 have hb5:h5.base≤h5.next:=by rw [hx5.base];exact Nat.le_trans vB hx5.next
 have hW:=own_new hb5 75 (encP kvj eb)
 have x6:=Ext.new h5 (CObj.cells { c:=encP kvj eb,e:=75,fam:=0,base:=0,grown:=false })
 have x26:=hx5.trans x6
 have hO6:=hO2.ext x26
 have hxh6:=hx2.trans x26.toS
 have K6:KidsAt (h5.newH (CObj.cells { c:=encP kvj eb,e:=75,fam:=0,base:=0,grown:=false })) (fun x=>OldB h0 x∨ownB v x) (fun q=>OldF h0 q∨ownF (h5.newH (CObj.cells { c:=encP kvj eb,e:=75,fam:=0,base:=0,grown:=false })) v q) (ks++kr) kvj :=
  (Kj.keep (keepsE x6).any).more (fun b _ c=>c) (fun f c=>.inl (c.elim .inl (fun c=>.inr (hO2.ownF_same (S:=fun _=>False) x26.toS (fun _ _ c=>c) c))))
 have hlo:(wo++consW ks (wr.take j)).length+1≤1000000:=by
  unfold consW
  rw [List.length_append,List.length_map,List.length_take]
  omega
 obtain ⟨v',h7,a7,hO7,hext7,hkp7,hoth7,hB7,hF7,hke7⟩:=ways_one apP mkP hO6 hW K6 (ext_bn hxh6 hbh) hxh6.next hxh6.nfam hlo
 have hx7:=hext7 (Only xb) hh hxh6 (Nat.le_refl _) (Nat.le_refl _)
 have x06:=vX.trans x26
 have hu0:¬ownF _ v 0:=fun c=>(hO6.flt c).1 rfl
 have hR6:=(hR'.ext x06).more (B':=fun y=>OldB h0 y∨ownB v y) (F':=fun q=>OldF h0 q∨ownF (h5.newH (CObj.cells { c:=encP kvj eb,e:=75,fam:=0,base:=0,grown:=false })) v q) (fun b _ c=>c) (fun f c=>.inl (c.elim .inl (fun c=>.inr (hO'.ownF_same (S:=fun _=>False) x06.toS (fun _ _ c=>c) c))))
 have hDR6:Beside (h5.newH (CObj.cells { c:=encP kvj eb,e:=75,fam:=0,base:=0,grown:=false })) vr v:=⟨hDR'.1,fun f c c'=>hDR'.2 f (hR'.ownF_same (S:=fun _=>False) x06.toS (fun _ _ c=>c) c) (hO'.ownF_same (S:=fun _=>False) x06.toS (fun _ _ c=>c) c')⟩
 obtain ⟨hR7,hDR7⟩:=hR6.beside hDR6 hu0 hkp7 hke7 hB7 hF7 (fun q c=>(hO7.flt c).1)
 have hpa6:=rowE_keep (S:=fun _=>False) x26.toS hpa2 (fun c=>c)
 have hpa7:=hke7 _ _ _ _ hpa6 hpv' hu0
 have hpv7:¬ownB v' pa:=fun c=>(hB7 pa c).elim hpv' (fun c=>by have:=hpa6.lt;omega)
 have hX7:=hoth7 _ _ _ (by decide) (own_ext x06 hX')
 have hP7:=hoth7 _ _ _ (by decide) (own_ext x06 hP')
 have hs5':=hs5
 unfold outV at hs5'
 rw [hva] at hs5' hpa2
 unfold encP at a7
 rw [hvj] at hs5' a7
 simp -dsimp only [go_sem,e0,e2,e4,e15,e16,e17,e7,e9,e25,e26,e27,rowE_loads hpa2,loads_own vO]
 refine ⟨_,h5,hs5',?_⟩
 simp -dsimp only [go_sem,e0,e2,e4,e15,e16,e17,e7,e9,e25,e26,e27,bs93 1 (by decide),repeatN,builtin',a7,wrap64_succ hlt (by omega)]
 exact ⟨wr.length - (j+1),by omega,j+1,v',hlt,rfl,hx7,Nat.le_trans hnx' (Nat.le_trans x06.next hkp7.next),hX7,hP7,by rw [consW_succ hwj,←List.append_assoc];exact hO7,hR7,hDR7,hpa7,hpv7,rfl,hvr2.symm,rfl⟩
end Go.Ev.G24
end
section
namespace Go.Ev.G24
open Go.RowKit Go.Proofs
variable {r:Ro} {G:List Rule} {items:List ByteArray} {Gv Iv:Option Addr} {gc ic xb bk m eb:Nat} {em:List Bool}
def ResS (N:Nat) (o:OutW) (n n':Nat) (ws:List Way) (cn cw:Nat):Prop :=
 (n+o.2.1≤2000∧n'=n+o.2.1∧ws=o.1)∨(2000<n+o.2.1∧2000<n'∧n'≤cn∧ws.length≤cw∧okH N (2001 - n) ws)
def capP (n:Nat):Nat:=102001+(2000 - n)*200001
def capR (n:Nat):Nat:=2000+(2001 - n)*200001
structure PreS (r:Ro) (G:List Rule) (items:List ByteArray) (Gv Iv:Option Addr) (gc ic xb bk m eb:Nat) (em:List Bool) (n q:Nat) (h:Hp):Prop where
 q:q≤items.length
 rom:h.rom=r
 hb:h.base≤h.next
 own:h.own xb 92 (sR items Iv ic bk n)
 book:Book h bk m eb (.slice Gv G.length gc) (nms G) em
def PostS (items:List ByteArray) (Iv:Option Addr) (ic xb bk:Nat) (h:Hp) (v:Value) (h1:Hp) (n':Nat) (ws:List Way):Prop:=ExtS (Only xb) h h1∧h1.own xb 92 (sR items Iv ic bk n')∧WS h1 h.next h.nfam (OldB h) (OldF h) ws v
def PartS (r:Ro) (G:List Rule) (items:List ByteArray) (Gv Iv:Option Addr) (gc ic xb bk m eb:Nat) (em:List Bool) (k:Nat) (p:Part):Prop:=∀(n q:Nat) (h:Hp) (cs:List Value) (o:OutW),n≤2000→PreS r G items Gv Iv gc ic xb bk m eb em n q h→RoPart r p cs→runW G items k (.part p q)=some o →
 ∃v h1,Snd Try.prog 46 [.pointer (some ⟨xb,0,none⟩),.agg cs.toArray,.int .i64 (q:Int)] h v h1∧∃n' ws,PostS items Iv ic xb bk h v h1 n' ws∧ResS items.length o n n' ws (capP n) (2*(2000 - n)+1)∧(p.d.data.toList=[114,117,108,101]→∀w∈ws,∃ks,w.1=[ruleT p.t ks])
structure RoRow (r:Ro) (G:List Rule) (l:List Part) (Av:Option Addr) (c b o:Nat) (css:Nat→List Value):Prop where
 pl:∀p∈l,named (nms G) p∧Few p
 ll:l.length≤100000
 lc:l.length≤c
 sp:spotless Av=true
 hA:l≠[]→Av=some ⟨b,o,none⟩
 hat:∀(i:Nat) (p:Part),l[i]? = some p→roAt r b (o+i*3) (css i)
 hk:∀(i:Nat) (p:Part),l[i]? = some p→RoPart r p (css i)
theorem RoRow.tail {x:Part} {l:List Part} {Av:Option Addr} {c b o:Nat} {css:Nat→List Value} (k:RoRow r G (x::l) Av c b o css):RoRow r G l (some ⟨b,o+3,none⟩) (c - 1) b (o+3) (fun i=>css (i+1)) :=
 ⟨fun p hp=>k.pl p (.tail _ hp),by have:=k.ll;simp at this;omega,by have:=k.lc;simp at this;omega,rfl,fun _=>rfl,fun i p hp=>by have:=k.hat (i+1) p (by simpa using hp);rw [show o+3+i*3=o+(i+1)*3 by omega];exact this,fun i p hp=>k.hk (i+1) p (by simpa using hp)⟩
def RowS (r:Ro) (G:List Rule) (items:List ByteArray) (Gv Iv:Option Addr) (gc ic xb bk m eb:Nat) (em:List Bool) (k:Nat):Prop:=∀(l:List Part) (Av:Option Addr) (c b o:Nat) (css:Nat→List Value) (n q:Nat) (h:Hp) (ow:OutW),RoRow r G l Av c b o css→n≤2000→PreS r G items Gv Iv gc ic xb bk m eb em n q h→runW G items k (.row l q)=some ow →
 ∃v h1,Snd Try.prog 73 [.pointer (some ⟨xb,0,none⟩),.slice Av l.length c,.int .i64 (q:Int)] h v h1∧∃n' ws,PostS items Iv ic xb bk h v h1 n' ws∧ResS items.length ow n n' ws (capR n) (2*(2001 - n))
def MoreS (r:Ro) (G:List Rule) (items:List ByteArray) (Gv Iv:Option Addr) (gc ic xb bk m eb:Nat) (em:List Bool) (k:Nat) (p:Part):Prop:=∀(n q:Nat) (h:Hp) (cs:List Value) (o:OutW),n≤2000→PreS r G items Gv Iv gc ic xb bk m eb em n q h→RoPart r p cs→runW G items k (.again p q)=some o →
 ∃v h1,Snd Try.prog 74 [.pointer (some ⟨xb,0,none⟩),.agg cs.toArray,.int .i64 (q:Int)] h v h1∧∃n' ws,PostS items Iv ic xb bk h v h1 n' ws∧ResS items.length o n n' ws (capR n) (2*(2001 - n))
def deadN:Nat:=10000000000
def PartD (r:Ro) (G:List Rule) (items:List ByteArray) (Gv Iv:Option Addr) (gc ic xb bk m eb:Nat) (em:List Bool) (p:Part):Prop:=∀(n q:Nat) (h:Hp) (cs:List Value),2000<n→n≤deadN→PreS r G items Gv Iv gc ic xb bk m eb em n q h→RoPart r p cs →
 ∃v h1,Snd Try.prog 46 [.pointer (some ⟨xb,0,none⟩),.agg cs.toArray,.int .i64 (q:Int)] h v h1∧PostS items Iv ic xb bk h v h1 (n+1) []
def RowD (r:Ro) (G:List Rule) (items:List ByteArray) (Gv Iv:Option Addr) (gc ic xb bk m eb:Nat) (em:List Bool):Prop:=∀(l:List Part) (Av:Option Addr) (c b o:Nat) (css:Nat→List Value) (n q:Nat) (h:Hp),RoRow r G l Av c b o css→2000<n→n≤deadN→PreS r G items Gv Iv gc ic xb bk m eb em n q h →
 ∃v h1,Snd Try.prog 73 [.pointer (some ⟨xb,0,none⟩),.slice Av l.length c,.int .i64 (q:Int)] h v h1∧∃n' ws,PostS items Iv ic xb bk h v h1 n' ws∧n≤n'∧n'≤n+1∧ws.length≤1∧okH items.length 0 ws
def MoreD (r:Ro) (G:List Rule) (items:List ByteArray) (Gv Iv:Option Addr) (gc ic xb bk m eb:Nat) (em:List Bool) (p:Part):Prop:=∀(n q:Nat) (h:Hp) (cs:List Value),2000<n→n≤deadN→PreS r G items Gv Iv gc ic xb bk m eb em n q h→RoPart r p cs →
 ∃v h1,Snd Try.prog 74 [.pointer (some ⟨xb,0,none⟩),.agg cs.toArray,.int .i64 (q:Int)] h v h1∧∃n' ws,PostS items Iv ic xb bk h v h1 n' ws∧n≤n'∧n'≤n+1∧ws.length≤1∧okH items.length 0 ws
def LoopS (G:List Rule) (items:List ByteArray) (TH:List Way→TaskW) (k s n1 cw:Nat) (wh:List Way) (b:OutW) (i:Nat) (wo:List Way) (n:Nat):Prop :=
 okH items.length (s+1) wo∧n1≤n∧((n≤2000∧wo.length+n1≤n+i∧∃b',runW G items k (TH (wh.drop i))=some b'∧b.1=wo++b'.1∧n+b'.2.1=n1+b.2.1) ∨
  (2000<n∧2000<n1+b.2.1∧n≤102001+s*200001+i∧wo.length≤cw+i))
variable {TH:List Way→TaskW} {T:Nat→TaskW} {k s n1 cw:Nat} {wh:List Way} {b:OutW}
theorem LoopS.start (h1:n1≤2000→runW G items k (TH wh)=some b) (h2:2000<n1→n1≤102001+s*200001):LoopS G items TH k s n1 cw wh b 0 [] n1:=by
 refine ⟨fun w hw=>by simp at hw,Nat.le_refl _,?_⟩
 by_cases h:n1≤2000
 ·exact .inl ⟨h,by simp,b,by rw [List.drop_zero];exact h1 h,by simp,rfl⟩
 ·exact .inr ⟨by omega,by omega,by have:=h2 (by omega);omega,Nat.zero_le _⟩
theorem LoopS.len {i n:Nat} {wo:List Way} (L:LoopS G items TH k s n1 cw wh b i wo n) (hi:i≤10000) (hcw:cw≤10000) (hs:s≤2000):wo.length≤20000∧n≤500000000:=by
 obtain ⟨_,_,⟨h1,h2,_⟩|⟨h1,h2,h3,h4⟩⟩:=L<;>omega
theorem LoopS.split {i n e:Nat} {wo:List Way} {ks:List Part} (st:∀(ks:List Part) (e:Nat) (hs:List Way) (rc:TaskW→Option OutW),stepW G items rc (TH ((ks,e)::hs))=two rc (T e) (fun _=>TH hs) (stepH ks)) (L:LoopS G items TH k s n1 cw wh b i wo n) (hn:n≤2000) (hi:wh[i]? = some (ks,e)) :
  ∃o b'',runW G items k (T e)=some o∧runW G items k (TH (wh.drop (i+1)))=some b''∧b.1=wo++(consW ks o.1++b''.1)∧n+(o.2.1+b''.2.1)=n1+b.2.1:=by
 obtain ⟨_,_,⟨h1,h2,b',h3,h4,h5⟩|⟨h1,_⟩⟩:=L
 ·have hdr:wh.drop i=(ks,e)::wh.drop (i+1):=by
   have hl:=get_lt' hi
   rw [List.drop_eq_getElem_cons hl]
   rw [List.getElem?_eq_getElem hl] at hi
   injection hi with hi
   rw [hi]
  rw [hdr] at h3
  obtain ⟨k',a,c,e0,q1,q2,q3⟩:=runW_inv (st ks e (wh.drop (i+1))) h3
  subst q3
  exact ⟨a,c,runW_le (by omega) _ _ q1,runW_le (by omega) _ _ q2,h4,h5⟩
 ·omega
theorem consW_len {ks:List Part} {ws:List Way}:(consW ks ws).length=ws.length:=by unfold consW;rw [List.length_map]
theorem LoopS.stepA {i n n' e C:Nat} {wo ws:List Way} {ks:List Part} (st:∀(ks:List Part) (e:Nat) (hs:List Way) (rc:TaskW→Option OutW),stepW G items rc (TH ((ks,e)::hs))=two rc (T e) (fun _=>TH hs) (stepH ks)) (sl:∀e,slackW (T e)≤1) (pr:∀e,e≤items.length→preW items.length 0 (T e))
  (L:LoopS G items TH k s n1 cw wh b i wo n) (hn:n≤2000) (hi:wh[i]? = some (ks,e)) (hs:s≤2000) (hC:n1+s=2000+C) (hC1:1≤C) (hcw:cw=2*s+2 - 2*C) (hCi:i<C) (hok:okH items.length C wh)
  (hres:∀o,runW G items k (T e)=some o→ResS items.length o n n' ws (capR n) (2*(2001 - n))):LoopS G items TH k s n1 cw wh b (i+1) (wo++consW ks ws) n':=by
 obtain ⟨o,b'',q1,q2,q3,q4⟩:=L.split st hn hi
 obtain ⟨L1,L0,L2⟩:=L
 obtain ⟨he,hkl,hkf⟩:=hok (ks,e) (List.mem_of_getElem? hi)
 have he:e≤items.length:=he
 have hkl:ks.length≤C:=hkl
 have hwo:wo.length+n1≤n+i:=by
  rcases L2 with ⟨_,a,_⟩|⟨a,_⟩
  ·exact a
  ·omega
 have hll:(wo++consW ks ws).length=wo.length+ws.length:=by rw [List.length_append,consW_len]
 rcases hres o q1 with ⟨r1,rfl,rfl⟩|⟨r1,r2,r3,r4,r5⟩
 ·have hlen:=runW_len _ _ _ q1
  have hsl:=sl e
  have hok2:=runW_ok rfl _ _ _ 0 q1 (pr e he) (by omega)
  refine ⟨okH_app L1 ((okH_cons (e:=e) ⟨hkl,hkf⟩ hok2).mono (by omega)),by omega,.inl ⟨r1,by omega,b'',q2,by rw [q3,List.append_assoc],by omega⟩⟩
 ·refine ⟨okH_app L1 ((okH_cons (e:=e) ⟨hkl,hkf⟩ r5).mono (by omega)),by omega,.inr ⟨r2,by omega,?_,by omega⟩⟩
  unfold capR at r3
  omega
theorem LoopS.stepD {i n n' e:Nat} {wo ws:List Way} {ks:List Part} (L:LoopS G items TH k s n1 cw wh b i wo n) (hn:2000<n) (hi:wh[i]? = some (ks,e)) (hok:okH items.length (s+1) wh)
  (h1:n≤n') (h2:n'≤n+1) (h3:ws.length≤1) (h4:okH items.length 0 ws):LoopS G items TH k s n1 cw wh b (i+1) (wo++consW ks ws) n':=by
 obtain ⟨L1,L0,⟨a,_⟩|⟨a1,a2,a3,a4⟩⟩:=L
 ·omega
 ·obtain ⟨he,hkl,hkf⟩:=hok (ks,e) (List.mem_of_getElem? hi)
  exact ⟨okH_app L1 ((okH_cons (e:=e) ⟨hkl,hkf⟩ h4).mono (by omega)),by omega,.inr ⟨by omega,a2,by omega,by rw [List.length_append,consW_len];omega⟩⟩
theorem LoopS.done {n:Nat} {wo:List Way} (L:LoopS G items TH k s n1 cw wh b wh.length wo n) (st:runW G items 1 (TH [])=some ([],0,0)):(n≤2000∧n=n1+b.2.1∧wo=b.1)∨(2000<n∧2000<n1+b.2.1∧n≤102001+s*200001+wh.length∧wo.length≤cw+wh.length∧okH items.length (s+1) wo):=by
 obtain ⟨L1,L0,⟨a1,a2,b',a3,a4,a5⟩|⟨a1,a2,a3,a4⟩⟩:=L
 ·rw [List.drop_length] at a3
  have:=runW_det a3 st
  subst this
  exact .inl ⟨a1,by simpa using a5,by rw [a4];simp⟩
 ·exact .inr ⟨a1,a2,a3,a4,L1⟩
end Go.Ev.G24
end
section
namespace Go.Ev.G24
open Go.RowKit Go.Proofs
variable {r:Ro} {G:List Rule} {items:List ByteArray} {Gv Iv:Option Addr} {gc ic xb bk m eb:Nat} {em:List Bool}
theorem book_only {h h1:Hp} {c:List Value} {Gs:Value} (k:Book h bk m eb Gs (nms G) em) (hX:h.own xb 92 c) (x:ExtS (Only xb) h h1):Book h1 bk m eb Gs (nms G) em:=by
 refine k.extS x (fun c => ?_) (fun c => ?_) (fun c => ?_)
 ·have c:bk=xb:=c
  have:=k.own.2.2;rw [c,hX.2.2] at this;simp at this
 ·have c:m=xb:=c
  have:=k.map.2;rw [c,hX.2.2] at this;simp at this
 ·have c:eb=xb:=c
  have:=k.row.2.2;rw [c,hX.2.2] at this;simp at this
theorem wsS_lift {hh h2 h4 h0:Hp} {ws wo:List Way} {v4 vo:Value} (x0:ExtS (Only xb) h0 hh) (x2:ExtS (Only xb) hh h2) (x4:ExtS (Only xb) h2 h4) (hxb:∀b,ownB vo b→¬Only xb b) (hO:WS h2 hh.next hh.nfam (OldB h0) (OldF h0) wo vo) (hR:WS h4 h2.next h2.nfam (OldB h2) (OldF h2) ws v4) :
  WS h4 h2.next h2.nfam (fun x=>OldB h0 x∨ownB vo x) (fun q=>OldF h0 q∨ownF h4 vo q) ws v4∧Beside h4 v4 vo:=by
 refine ⟨hR.more (fun b _ c=>c.elim (fun c=>Nat.lt_of_lt_of_le c (Nat.le_trans x0.next x2.next)) (fun c=>(hO.lt c).2)) (fun f c=>.inl (c.elim (fun c=>⟨c.1,Nat.lt_of_lt_of_le c.2 (Nat.le_trans x0.nfam x2.nfam)⟩) (fun c=>by
  have:=hO.flt (hO.ownF_same x4 hxb c)
  exact ⟨this.1,this.2.2⟩))),fun b c c' => ?_,fun f c c' => ?_⟩
 ·have:=(hR.lt c).1;have:=(hO.lt c').2;omega
 ·have:=(hR.flt c).2.1;have:=(hO.flt (hO.ownF_same x4 hxb c')).2.2;omega
set_option maxHeartbeats 8000000 in
set_option maxRecDepth 10000 in
theorem join_outer73 {h0 hh:Hp} {nh fh k s n1 cw:Nat} {wh:List Way} {vh:Value} {bo:OutW} {x:Part} {l:List Part} {c b o:Nat} {css:Nat→List Value} (hb:h0.base≤h0.next) (hrom:h0.rom=r) (hx0:ExtS (Only xb) h0 hh) (hX:hh.own xb 92 (sR items Iv ic bk n1)) (hxn:xb<h0.next) (hbook:Book hh bk m eb (.slice Gv G.length gc) (nms G) em)
  (ihA:RowS r G items Gv Iv gc ic xb bk m eb em k) (ihD:RowD r G items Gv Iv gc ic xb bk m eb em) (hro:RoRow r G (x::l) (some ⟨b,o,none⟩) c b o css) (hH:WS hh nh fh (OldB h0) (OldF h0) wh vh) (hnh:h0.next≤nh) (hs:s≤2000)
  (hAl:n1≤2000→∃C,n1+s=2000+C∧1≤C∧cw=2*s+2 - 2*C∧wh.length≤C∧okH items.length C wh) (hokh:okH items.length (s+1) wh) (hwl:wh.length≤5000) (hcw:cw≤5000) (hst:LoopS G items (fun hs=>TaskW.rowH hs l) k s n1 cw wh bo 0 [] n1)
  {a:Ev.A} {Q:Ex→Ev.A→Hp→Prop} (hn:a.n=49) (g0:a.get 0=.pointer (some ⟨xb,0,none⟩)) (g1:a.get 1=.slice (some ⟨b,o,none⟩) (l.length+1) c) (g7:a.get 7=.slice none 0 0) (g23:a.get 23=vh) (g24:a.get 24=.int .i64 (wh.length:Int)) (g25:a.get 25=.int .i64 0)
  (hq:∀a1 h1 wo vo n,a1.n=49→ExtS (Only xb) hh h1→h1.own xb 92 (sR items Iv ic bk n)→WS h1 hh.next hh.nfam (OldB h0) (OldF h0) wo vo→LoopS G items (fun hs=>TaskW.rowH hs l) k s n1 cw wh bo wh.length wo n→a1.get 1=.slice (some ⟨b,o,none⟩) (l.length+1) c→a1.get 7=vo→Q (.exit 0) a1 h1) :
  Th Try.prog (bodyAt Try.f73 [1,1,1,0,1,0]) a hh Q ⟨⟩ ⟨⟩:=by
 obtain ⟨Ah0,hvh0,hsph0⟩:=hH.slice
 have hbh:hh.base≤hh.next:=ext_bn hx0 hb
 have hnr:=noRow_own hX (by decide)
 simp only [bodyAt,nav,Try.f73]
 refine loop_go (n:=49) (by kernel_rfl) (fun m' a' h'=>∃(i:Nat) (wo:List Way) (vo:Value) (n:Nat),i≤wh.length∧m'=wh.length - i∧ExtS (Only xb) hh h'∧h'.own xb 92 (sR items Iv ic bk n)∧WS h' hh.next hh.nfam (OldB h0) (OldF h0) wo vo∧LoopS G items (fun hs=>TaskW.rowH hs l) k s n1 cw wh bo i wo n ∧
  a'.get 0=.pointer (some ⟨xb,0,none⟩)∧a'.get 1=.slice (some ⟨b,o,none⟩) (l.length+1) c∧a'.get 7=vo∧a'.get 23=vh∧a'.get 24=.int .i64 (wh.length:Int)∧a'.get 25=.int .i64 (i:Int)) ?_ wh.length _ _ hn ⟨0,[],.slice none 0 0,n1,Nat.zero_le _,rfl,(Ext.refl _).toS,hX,WaysAt.nil,hst,g0,g1,g7,g23,g24,g25⟩
 rintro m' a' h' hn' ⟨i,wo,vo,n,hi,rfl,hx',hX',hO',hL,e0,e1,e7,e23,e24,e25⟩
 have hb':h'.base≤h'.next:=ext_bn hx' hbh
 by_cases hlt:i<wh.length
 rotate_left
 ·have hi0:decide ((i:Int)<(wh.length:Int))=false:=decide_eq_false (by omega)
  have hil:i=wh.length:=by omega
  subst hil
  simp -dsimp only [go_sem,e0,e1,e7,e23,e24,e25,hi0]
  exact hq _ h' wo vo n (by simp -dsimp only [go_sem,hn']) hx' hX' hO' hL (by simp -dsimp only [go_sem,e1]) (by simp -dsimp only [go_sem,e7])
 have hi1:decide ((i:Int)<(wh.length:Int))=true:=decide_eq_true (Int.ofNat_lt.2 hlt)
 obtain ⟨⟨ks,e⟩,hwi⟩:∃w,wh[i]? = some w:=⟨_,List.getElem?_eq_getElem hlt⟩
 obtain ⟨he',hkl,hkf⟩:=hokh (ks,e) (List.mem_of_getElem? hwi)
 have hkl:ks.length≤s+1:=hkl
 have he':e≤items.length:=he'
 obtain ⟨bh,Ah,ch,hvh,hsph,Kh,ldh⟩:=hH.getP hwi
 have hxbh:∀b,ownB vh b→¬Only xb b:=fun b c d=>by have:=(hH.lt c).1;have:b=xb:=d;omega
 have hxbo:∀b,ownB vo b→¬Only xb b:=fun b c d=>by have:=(hO'.lt c).1;have:=hx0.next;have:b=xb:=d;omega
 have ld0:h'.loads ⟨bh,i*3,none⟩ 3=some [.bool true,.int .i64 (e:Int),.slice Ah ks.length ch]:=ldh _ h' hx' hxbh
 obtain ⟨vS,vO,vX,vB,vR⟩:=var_ok hb' (e:=75) (c0:=[.bool false,.int .i64 0,.slice none 0 0]) (c1:=[.bool true,.int .i64 (e:Int),.slice Ah ks.length ch]) rfl rfl (by simp)
 obtain ⟨hwo,hnb⟩:=hL.len (by omega) (by omega) hs
 have e23':=e23
 rw [hvh] at e23'
 simp -dsimp only [go_sem,e0,e1,e7,e23',e24,e25,hi1,ia93 hlt,ld0,vS]
 generalize h'.var 75 [.bool false,.int .i64 0,.slice none 0 0] [.bool true,.int .i64 (e:Int),.slice Ah ks.length ch]=h2 at vO vX vB vR ⊢
 clear vS
 have hx2:ExtS (Only xb) hh h2:=hx'.trans vX.toS
 have hrom2:h2.rom=r:=hx2.rom.trans (hx0.rom.trans hrom)
 have hX2:=own_ext vX hX'
 have hO2:=hO'.ext vX
 have hpre:PreS r G items Gv Iv gc ic xb bk m eb em n e h2:=⟨he',hrom2,vB,hX2,book_only hbook hX hx2⟩
 have sub:∃v4 h4,Snd Try.prog 73 [.pointer (some ⟨xb,0,none⟩),.slice (some ⟨b,o+3,none⟩) l.length (c - 1),.int .i64 (e:Int)] h2 v4 h4∧∃n' ws,PostS items Iv ic xb bk h2 v4 h4 n' ws∧LoopS G items (fun hs=>TaskW.rowH hs l) k s n1 cw wh bo (i+1) (wo++consW ks ws) n'∧ws.length≤10000∧∀w∈ws,w.1.length≤200000:=by
  by_cases hn2:n≤2000
  ·have hn1:n1≤2000:=Nat.le_trans hL.2.1 hn2
   obtain ⟨C,c1,c2,c3,c4,c5⟩:=hAl hn1
   obtain ⟨ow,b'',h3,_,_,_⟩:=hL.split (T:=fun e=>TaskW.row l e) (fun _ _ _ _=>rfl) hn2 hwi
   obtain ⟨v4,h4,hs4,n',ws,hpost,hres⟩:=ihA l (some ⟨b,o+3,none⟩) (c - 1) b (o+3) (fun i=>css (i+1)) n e h2 ow hro.tail hn2 hpre h3
   refine ⟨v4,h4,hs4,n',ws,hpost,hL.stepA (T:=fun e=>TaskW.row l e) (fun _ _ _ _=>rfl) (fun e=>by simp [slackW]) (fun e he=>⟨he,rfl⟩) hn2 hwi hs c1 c2 c3 (by omega) c5 (fun o ho=>by rw [runW_det ho h3];exact hres),?_⟩
   rcases hres with ⟨r1,r2,r3⟩|⟨r1,r2,r3,r4,r5⟩
   ·subst r3
    have hlen:=runW_len _ _ _ h3
    have hsl:slackW (TaskW.row l e)≤1:=by simp [slackW]
    have hok2:=runW_ok rfl _ _ _ 0 h3 (by exact ⟨he',rfl⟩) (by omega)
    exact ⟨by omega,fun w hw=>by have:=(hok2 w hw).2.1;omega⟩
   ·exact ⟨by omega,fun w hw=>by have:=(r5 w hw).2.1;omega⟩
  ·obtain ⟨v4,h4,hs4,n',ws,hpost,q1,q2,q3,q4⟩:=ihD l (some ⟨b,o+3,none⟩) (c - 1) b (o+3) (fun i=>css (i+1)) n e h2 hro.tail (by omega) (by unfold deadN;omega) hpre
   exact ⟨v4,h4,hs4,n',ws,hpost,hL.stepD (by omega) hwi hokh q1 q2 q3 q4,by omega,fun w hw=>by have:=(q4 w hw).2.1;omega⟩
 obtain ⟨v4,h4,hs4,n',ws,⟨hx4,hX4,hR4⟩,hL4,hwsl,hwsk⟩:=sub
 obtain ⟨A4,hv4,hsp4⟩:=hR4.slice
 refine Dw_text (n:=49) [[],[],[1],[],[3],[0,1,2,3,4],[0,1,2,3,4,5],[]] (by simp -dsimp only [go_sem,hn']) (by kernel_rfl) ?_
 simp -dsimp only [go_sem,e0,e1,e7,e23,e24,e25,slice50 hrom2 (hro.hat 0 x rfl).1 (by omega:1≤l.length+1) (by simpa using hro.lc:l.length+1≤c),Nat.add_sub_cancel,load_own vO]
 refine ⟨_,h4,hs4,?_⟩
 rw [hv4]
 simp -dsimp only [go_sem,sameN_sliceA hsp4]
 have hpa4:RowE 75 h4 h'.next [.bool true,.int .i64 (e:Int),.slice Ah ks.length ch] 0:=rowE_keep hx4 ⟨vO.1,vO.2.1,⟨0,false,row_own vO⟩,fun c=>absurd rfl c⟩ (fun c=>by have c:h'.next=xb:=c;have:=hx0.next;have:=hx'.next;omega)
 have hO4:WS h4 hh.next hh.nfam (OldB h0) (OldF h0) wo vo:=hO2.extS hx4 (noRow_own hX2 (by decide)) hxbo
 obtain ⟨hR4',hDR4⟩:=wsS_lift hx0 hx2 hx4 hxbo hO2 hR4
 have Kh2:KidsAt hh (OldB h0) (OldF h0) ks (.slice Ah ks.length ch):=Kh.more (fun b _ c=>.inl c) (fun f c=>.inl (.inl c))
 refine join_inner73 (x0:=.pointer (some ⟨xb,0,none⟩)) (x1:=.slice (some ⟨b,o,none⟩) (l.length+1) c) (x23:=vh) (x24:=.int .i64 (wh.length:Int)) (x25:=.int .i64 (i:Int)) hb hx0 hxn hnr (hx2.trans hx4) hX4 Kh2 hO4 hR4' hDR4 hpa4 (by have:=hx0.next;have:=hx'.next;omega) (fun c=>by have:=(hO'.lt c).2;omega) (by omega) hwsk (by omega) (by simp -dsimp only [go_sem,hn']) (by simp -dsimp only [go_sem,e0]) (by simp -dsimp only [go_sem,e1]) (by simp -dsimp only [go_sem,e23]) (by simp -dsimp only [go_sem,e24]) (by simp -dsimp only [go_sem,e25]) (by simp -dsimp only [go_sem,e7]) (by simp -dsimp only [go_sem]) (by simp -dsimp only [go_sem,hv4]) (by simp -dsimp only [go_sem]) (by simp -dsimp only [go_sem]) (fun a1 h5 vo' r_n hx5 hn5 hX5 hO5 r0 r1 r23 r24 r25 r7 => ?_)
 simp -dsimp only [go_sem,r0,r1,r23,r24,r25,r7,wrap64_succ hlt (by omega)]
 exact ⟨wh.length - (i+1),by omega,i+1,_,vo',n',hlt,rfl,hx5,hX5,hO5,hL4,rfl,rfl⟩
set_option maxHeartbeats 8000000 in
set_option maxRecDepth 10000 in
theorem join_outer74 {h0 hh:Hp} {nh fh k s n1 cw:Nat} {wh:List Way} {vh:Value} {bo:OutW} {x:Part} {pb:Nat} {Av1:Option Addr} {c1:Nat} {xq:Value} (hb:h0.base≤h0.next) (hrom:h0.rom=r) (hx0:ExtS (Only xb) h0 hh) (hX:hh.own xb 92 (sR items Iv ic bk n1)) (hxn:xb<h0.next) (hbook:Book hh bk m eb (.slice Gv G.length gc) (nms G) em)
  (ihA:MoreS r G items Gv Iv gc ic xb bk m eb em k x) (ihD:MoreD r G items Gv Iv gc ic xb bk m eb em x) (hkx:RoPart r x [.string x.d,.string x.t,.slice Av1 x.l.length c1]) (hP:hh.own pb 52 [.string x.d,.string x.t,.slice Av1 x.l.length c1]) (hpx2:pb≠xb) (hH:WS hh nh fh (OldB h0) (OldF h0) wh vh) (hnh:h0.next≤nh) (hs:s≤2000)
  (hAl:n1≤2000→∃C,n1+s=2000+C∧1≤C∧cw=2*s+2 - 2*C∧wh.length≤C∧okH items.length C wh) (hokh:okH items.length (s+1) wh) (hwl:wh.length≤5000) (hcw:cw≤5000) (hst:LoopS G items (fun hs=>TaskW.againH hs x) k s n1 cw wh bo 0 [] n1)
  {a:Ev.A} {Q:Ex→Ev.A→Hp→Prop} (hn:a.n=44) (g0:a.get 0=.pointer (some ⟨xb,0,none⟩)) (g2:a.get 2=xq) (g4:a.get 4=.pointer (some ⟨pb,0,none⟩)) (g7:a.get 7=.slice none 0 0) (g15:a.get 15=vh) (g16:a.get 16=.int .i64 (wh.length:Int)) (g17:a.get 17=.int .i64 0)
  (hq:∀a1 h1 wo vo n,a1.n=44→ExtS (Only xb) hh h1→h1.own xb 92 (sR items Iv ic bk n)→h1.own pb 52 [.string x.d,.string x.t,.slice Av1 x.l.length c1]→WS h1 hh.next hh.nfam (OldB h0) (OldF h0) wo vo→LoopS G items (fun hs=>TaskW.againH hs x) k s n1 cw wh bo wh.length wo n→a1.get 2=xq→a1.get 4=.pointer (some ⟨pb,0,none⟩)→a1.get 7=vo→Q (.exit 0) a1 h1) :
  Th Try.prog (bodyAt Try.f74 [1,1,0,1,0]) a hh Q ⟨⟩ ⟨⟩:=by
 obtain ⟨Ah0,hvh0,hsph0⟩:=hH.slice
 have hbh:hh.base≤hh.next:=ext_bn hx0 hb
 have hnr:=noRow_own hX (by decide)
 simp only [bodyAt,nav,Try.f74]
 refine loop_go (n:=44) (by kernel_rfl) (fun m' a' h'=>∃(i:Nat) (wo:List Way) (vo:Value) (n:Nat),i≤wh.length∧m'=wh.length - i∧ExtS (Only xb) hh h'∧h'.own xb 92 (sR items Iv ic bk n)∧WS h' hh.next hh.nfam (OldB h0) (OldF h0) wo vo∧LoopS G items (fun hs=>TaskW.againH hs x) k s n1 cw wh bo i wo n∧h'.own pb 52 [.string x.d,.string x.t,.slice Av1 x.l.length c1] ∧
  a'.get 0=.pointer (some ⟨xb,0,none⟩)∧a'.get 2=xq∧a'.get 4=.pointer (some ⟨pb,0,none⟩)∧a'.get 7=vo∧a'.get 15=vh∧a'.get 16=.int .i64 (wh.length:Int)∧a'.get 17=.int .i64 (i:Int)) ?_ wh.length _ _ hn ⟨0,[],.slice none 0 0,n1,Nat.zero_le _,rfl,(Ext.refl _).toS,hX,WaysAt.nil,hst,hP,g0,g2,g4,g7,g15,g16,g17⟩
 rintro m' a' h' hn' ⟨i,wo,vo,n,hi,rfl,hx',hX',hO',hL,hP',e0,e2,e4,e7,e15,e16,e17⟩
 have hb':h'.base≤h'.next:=ext_bn hx' hbh
 by_cases hlt:i<wh.length
 rotate_left
 ·have hi0:decide ((i:Int)<(wh.length:Int))=false:=decide_eq_false (by omega)
  have hil:i=wh.length:=by omega
  subst hil
  simp -dsimp only [go_sem,e0,e2,e4,e7,e15,e16,e17,hi0]
  exact hq _ h' wo vo n (by simp -dsimp only [go_sem,hn']) hx' hX' hP' hO' hL (by simp -dsimp only [go_sem,e2]) (by simp -dsimp only [go_sem,e4]) (by simp -dsimp only [go_sem,e7])
 have hi1:decide ((i:Int)<(wh.length:Int))=true:=decide_eq_true (Int.ofNat_lt.2 hlt)
 obtain ⟨⟨ks,e⟩,hwi⟩:∃w,wh[i]? = some w:=⟨_,List.getElem?_eq_getElem hlt⟩
 obtain ⟨he',hkl,hkf⟩:=hokh (ks,e) (List.mem_of_getElem? hwi)
 have hkl:ks.length≤s+1:=hkl
 have he':e≤items.length:=he'
 obtain ⟨bh,Ah,ch,hvh,hsph,Kh,ldh⟩:=hH.getP hwi
 have hxbh:∀b,ownB vh b→¬Only xb b:=fun b c d=>by have:=(hH.lt c).1;have:b=xb:=d;omega
 have hxbo:∀b,ownB vo b→¬Only xb b:=fun b c d=>by have:=(hO'.lt c).1;have:=hx0.next;have:b=xb:=d;omega
 have ld0:h'.loads ⟨bh,i*3,none⟩ 3=some [.bool true,.int .i64 (e:Int),.slice Ah ks.length ch]:=ldh _ h' hx' hxbh
 obtain ⟨vS,vO,vX,vB,vR⟩:=var_ok hb' (e:=75) (c0:=[.bool false,.int .i64 0,.slice none 0 0]) (c1:=[.bool true,.int .i64 (e:Int),.slice Ah ks.length ch]) rfl rfl (by simp)
 obtain ⟨hwo,hnb⟩:=hL.len (by omega) (by omega) hs
 have e15':=e15
 rw [hvh] at e15'
 simp -dsimp only [go_sem,e0,e2,e4,e7,e15',e16,e17,hi1,ia93 hlt,ld0,vS]
 generalize h'.var 75 [.bool false,.int .i64 0,.slice none 0 0] [.bool true,.int .i64 (e:Int),.slice Ah ks.length ch]=h2 at vO vX vB vR ⊢
 clear vS
 have hx2:ExtS (Only xb) hh h2:=hx'.trans vX.toS
 have hrom2:h2.rom=r:=hx2.rom.trans (hx0.rom.trans hrom)
 have hX2:=own_ext vX hX'
 have hO2:=hO'.ext vX
 have hP2:=own_ext vX hP'
 have hpre:PreS r G items Gv Iv gc ic xb bk m eb em n e h2:=⟨he',hrom2,vB,hX2,book_only hbook hX hx2⟩
 have sub:∃v4 h4,Snd Try.prog 74 [.pointer (some ⟨xb,0,none⟩),.agg #[.string x.d,.string x.t,.slice Av1 x.l.length c1],.int .i64 (e:Int)] h2 v4 h4∧∃n' ws,PostS items Iv ic xb bk h2 v4 h4 n' ws∧LoopS G items (fun hs=>TaskW.againH hs x) k s n1 cw wh bo (i+1) (wo++consW ks ws) n'∧ws.length≤10000∧∀w∈ws,w.1.length≤200000:=by
  by_cases hn2:n≤2000
  ·have hn1:n1≤2000:=Nat.le_trans hL.2.1 hn2
   obtain ⟨C,c1,c2,c3,c4,c5⟩:=hAl hn1
   obtain ⟨ow,b'',h3,_,_,_⟩:=hL.split (T:=fun e=>TaskW.again x e) (fun _ _ _ _=>rfl) hn2 hwi
   obtain ⟨v4,h4,hs4,n',ws,hpost,hres⟩:=ihA n e h2 _ ow hn2 hpre hkx h3
   refine ⟨v4,h4,hs4,n',ws,hpost,hL.stepA (T:=fun e=>TaskW.again x e) (fun _ _ _ _=>rfl) (fun e=>by simp [slackW]) (fun e he=>⟨he,rfl⟩) hn2 hwi hs c1 c2 c3 (by omega) c5 (fun o ho=>by rw [runW_det ho h3];exact hres),?_⟩
   rcases hres with ⟨r1,r2,r3⟩|⟨r1,r2,r3,r4,r5⟩
   ·subst r3
    have hlen:=runW_len _ _ _ h3
    have hsl:slackW (TaskW.again x e)≤1:=by simp [slackW]
    have hok2:=runW_ok rfl _ _ _ 0 h3 (by exact ⟨he',rfl⟩) (by omega)
    exact ⟨by omega,fun w hw=>by have:=(hok2 w hw).2.1;omega⟩
   ·exact ⟨by omega,fun w hw=>by have:=(r5 w hw).2.1;omega⟩
  ·obtain ⟨v4,h4,hs4,n',ws,hpost,q1,q2,q3,q4⟩:=ihD n e h2 _ (by omega) (by unfold deadN;omega) hpre hkx
   exact ⟨v4,h4,hs4,n',ws,hpost,hL.stepD (by omega) hwi hokh q1 q2 q3 q4,by omega,fun w hw=>by have:=(q4 w hw).2.1;omega⟩
 obtain ⟨v4,h4,hs4,n',ws,⟨hx4,hX4,hR4⟩,hL4,hwsl,hwsk⟩:=sub
 obtain ⟨A4,hv4,hsp4⟩:=hR4.slice
 have hP4:=own_extS hx4 hP2 hpx2
 simp -dsimp only [go_sem,e0,e2,e4,e7,e15,e16,e17,loads_own hP2,load_own vO]
 refine ⟨_,h4,hs4,?_⟩
 rw [hv4]
 simp -dsimp only [go_sem]
 have hpa4:RowE 75 h4 h'.next [.bool true,.int .i64 (e:Int),.slice Ah ks.length ch] 0:=rowE_keep hx4 ⟨vO.1,vO.2.1,⟨0,false,row_own vO⟩,fun c=>absurd rfl c⟩ (fun c=>by have c:h'.next=xb:=c;have:=hx0.next;have:=hx'.next;omega)
 have hO4:WS h4 hh.next hh.nfam (OldB h0) (OldF h0) wo vo:=hO2.extS hx4 (noRow_own hX2 (by decide)) hxbo
 obtain ⟨hR4',hDR4⟩:=wsS_lift hx0 hx2 hx4 hxbo hO2 hR4
 have Kh2:KidsAt hh (OldB h0) (OldF h0) ks (.slice Ah ks.length ch):=Kh.more (fun b _ c=>.inl c) (fun f c=>.inl (.inl c))
 refine join_inner74 (x0:=.pointer (some ⟨xb,0,none⟩)) (x2:=xq) (x4:=.pointer (some ⟨pb,0,none⟩)) (x15:=vh) (x16:=.int .i64 (wh.length:Int)) (x17:=.int .i64 (i:Int)) hb hx0 hxn hnr (hx2.trans hx4) hX4 hP4 Kh2 hO4 hR4' hDR4 hpa4 (by have:=hx0.next;have:=hx'.next;omega) (fun c=>by have:=(hO'.lt c).2;omega) (by omega) hwsk (by omega) (by simp -dsimp only [go_sem,hn']) (by simp -dsimp only [go_sem,e0]) (by simp -dsimp only [go_sem,e2]) (by simp -dsimp only [go_sem,e4]) (by simp -dsimp only [go_sem,e15]) (by simp -dsimp only [go_sem,e16]) (by simp -dsimp only [go_sem,e17]) (by simp -dsimp only [go_sem,e7]) (by simp -dsimp only [go_sem]) (by simp -dsimp only [go_sem,hv4]) (by simp -dsimp only [go_sem]) (by simp -dsimp only [go_sem]) (fun a1 h5 vo' r_n hx5 hn5 hX5 hP5 hO5 r0 r2 r4 r15 r16 r17 r7 => ?_)
 simp -dsimp only [go_sem,r0,r2,r4,r15,r16,r17,r7,wrap64_succ hlt (by omega)]
 exact ⟨wh.length - (i+1),by omega,i+1,_,vo',n',hlt,rfl,hx5,hX5,hO5,hL4,hP5,rfl,rfl⟩
end Go.Ev.G24
end
section
namespace Go.Ev.G24
open Go.RowKit Go.Proofs
variable {r:Ro} {G:List Rule} {items:List ByteArray} {Gv Iv:Option Addr} {gc ic xb bk m eb:Nat} {em:List Bool}
theorem WS.pre {h h2 h1:Hp} {ws:List Way} {v:Value} {n0 f0:Nat} (x:ExtS (Only xb) h h2) (k:WS h1 n0 f0 (OldB h2) (OldF h2) ws v) (h0:h2.next≤n0) (h1':h2.nfam≤f0):WS h1 h.next h.nfam (OldB h) (OldF h) ws v :=
 (k.low (Nat.le_trans x.next h0) (Nat.le_trans x.nfam h1')).more (fun b _ c=>Nat.lt_of_lt_of_le c x.next) (fun f c=>.inl ⟨c.1,Nat.lt_of_lt_of_le c.2 x.nfam⟩)
theorem heads_facts {k n n1 q:Nat} {p:Part} {a:OutW} {wh:List Way} (hn2:n≤2000) (hq:q≤items.length) (hrun:runW G items k (.part p q)=some a) (hres:ResS items.length a n n1 wh (capP n) (2*(2000 - n)+1)) :
  ∃cw,(n1≤2000→∃C,n1+(2000 - n)=2000+C∧1≤C∧cw=2*(2000 - n)+2 - 2*C∧wh.length≤C∧okH items.length C wh)∧okH items.length (2000 - n+1) wh∧wh.length≤5000∧cw≤5000∧cw+wh.length≤2*(2000 - n)+1∧wh.length≤2*(2000 - n)+1∧(n1≤2000→wh=a.1∧n1=n+a.2.1)∧(2000<n1→n1≤102001+(2000 - n)*200001∧2000<n+a.2.1):=by
 rcases hres with ⟨r1,rfl,rfl⟩|⟨r1,r2,r3,r4,r5⟩
 ·have hp:=runW_pos hrun
  have hlen:=runW_len _ _ _ hrun
  have hsl:slackW (.part p q)=0:=rfl
  have hok:=runW_ok rfl _ _ _ 0 hrun (by exact ⟨hq,rfl⟩) (by omega)
  refine ⟨2*(2000 - n)+2 - 2*a.2.1,fun _=>⟨a.2.1,by omega,hp,rfl,by omega,hok.mono (by omega)⟩,hok.mono (by omega),by omega,by omega,by omega,by omega,fun _=>⟨rfl,rfl⟩,fun c=>by omega⟩
 ·refine ⟨0,fun c=>by omega,?_,by omega,by omega,by omega,r4,fun c=>by omega,fun _=>⟨by unfold capP at r3;omega,r1⟩⟩
  rw [show 2000 - n+1=2001 - n by omega]
  exact r5
theorem loop_facts {TH:List Way→TaskW} {k n n1 n' cw e:Nat} {a bo ow:OutW} {wh wo:List Way} (hn2:n≤2000) (he:e≤1) (h1:cw+wh.length≤2*(2000 - n)+1) (h2:wh.length≤2*(2000 - n)+1) (h3:n1≤2000→wh=a.1∧n1=n+a.2.1) (h4:2000<n1→n1≤102001+(2000 - n)*200001∧2000<n+a.2.1) (hc:ow.2.1=a.2.1+bo.2.1)
  (L:LoopS G items TH k (2000 - n) n1 cw wh bo wh.length wo n') (st:runW G items 1 (TH [])=some ([],0,0)) :
  (n+ow.2.1≤2000∧n'=n+ow.2.1∧wo=bo.1)∨(2000<n+ow.2.1∧2000<n'∧n'≤capR n∧wo.length+1≤2*(2001 - n)∧okH items.length (2001 - n) wo):=by
 have hL0:=L.2.1
 rcases L.done st with ⟨d1,d2,d3⟩|⟨d1,d2,d3,d4,d5⟩
 ·have h3:=(h3 (by omega)).2
  exact .inl ⟨by omega,by omega,d3⟩
 ·refine .inr ⟨?_,d1,by unfold capR;omega,by omega,?_⟩
  ·by_cases c:n1≤2000
   ·have:=(h3 c).2;omega
   ·have:=(h4 (by omega)).2;omega
  ·rw [show 2001 - n=2000 - n+1 by omega]
   exact d5
set_option maxHeartbeats 8000000 in
set_option maxRecDepth 10000 in
theorem ways_row {k:Nat} (ihp:∀p,named (nms G) p→Few p→PartS r G items Gv Iv gc ic xb bk m eb em k p) (ihA:RowS r G items Gv Iv gc ic xb bk m eb em k) (ihD:RowD r G items Gv Iv gc ic xb bk m eb em):RowS r G items Gv Iv gc ic xb bk m eb em (k+1):=by
 intro l Av c b o css n q h ow hro hn2 ⟨hq,hrom,hb,hX,hbook⟩ hrun
 have hsp:=hro.sp
 refine snd_go wf Try.func73 rfl rfl (n:=49) rfl (by kernel_rfl) rfl ?_
 intro a hn hg
 have hr:Try.f73.results.toList=[.tmp 6]:=rfl
 have g0:=hg 0
 have g1:=hg 1
 have g2:=hg 2
 clear hg
 simp only [List.getElem?_cons_zero,List.getElem?_cons_succ] at g0 g1 g2
 by_cases hl:l=[]
 ·subst hl
  have hW:=own_new hb 75 [.bool true,.int .i64 (q:Int),.slice none 0 0]
  have hx:=Ext.new h (CObj.cells ⟨[.bool true,.int .i64 (q:Int),.slice none 0 0],75,0,0,false⟩)
  simp -dsimp only [go_sem,g0,g1,g2,sameN_sliceA hsp,bs93 1 (by decide),repeatN,List.length_nil,Int.natCast_zero,decide_true,hr]
  have hrun':ow=([([],q)],0,0):=by
   injection (show some ([([],q)],0,0)=some ow from hrun) with e
   exact e.symm
  subst hrun'
  exact ⟨n,[([],q)],⟨hx.toS,own_ext hx hX,ways_new mkP hW (Nat.le_refl _) KidsAt.nil⟩,.inl ⟨hn2,rfl,rfl⟩⟩
 ·obtain ⟨x,l,rfl⟩:∃x l',l=x::l':=List.exists_cons_of_ne_nil hl
  have hl0:decide (((l.length+1:Nat):Int)=0)=false:=decide_eq_false (by omega)
  have hAv:=hro.hA hl
  subst hAv
  obtain ⟨hnx,hfx⟩:=hro.pl x (.head _)
  have hkx:=hro.hk 0 x rfl
  have hatx:=hro.hat 0 x rfl
  obtain ⟨Av1,c1',hcs⟩:=hkx.shape
  rw [hcs] at hkx hatx
  obtain ⟨k',a1,bo,e0,q1,q2,rfl⟩:=runW_inv (t:=.row (x::l) q) (fun rc=>rfl) hrun
  have e0:k'=k:=by omega
  subst e0
  obtain ⟨v4,h4,hs4,n1,wh,⟨hx4,hX4,hH4⟩,hres,_⟩:=ihp x hnx hfx n q h _ a1 hn2 ⟨hq,hrom,hb,hX,hbook⟩ hkx q1
  obtain ⟨cw,f1,f2,f3,f4,f5,f6,f7,f8⟩:=heads_facts hn2 hq q1 hres
  obtain ⟨A4,hv4,hsp4⟩:=hH4.slice
  have hix:indexAddr' Try.prog 50 (.slice (some ⟨b,o,none⟩) (l.length+1) c) (.int .i64 0)=some (.pointer (some ⟨b,o,none⟩)):=by
   have:=ia50 (b:=b) (o:=o) (c:=c) (n:=l.length+1) (i:=0) (by omega)
   simpa using this
  have hld:h.loads ⟨b,o,none⟩ 3=some [.string x.d,.string x.t,.slice Av1 x.l.length c1']:=loads_ro (n:=3) hrom (by simpa using hatx) rfl
  simp -dsimp only [go_sem,g0,g1,g2,hl0,hix,hld]
  refine ⟨_,h4,hs4,?_⟩
  rw [hv4]
  simp -dsimp only [go_sem]
  refine join_outer73 (s:=2000 - n) (bo:=bo) hb hrom hx4 hX4 hX.2.1 (book_only hbook hX hx4) ihA ihD hro hH4 (Nat.le_refl _) (by omega) f1 f2 f3 f4 (LoopS.start (fun c=>by rw [(f7 c).1];exact q2) (fun c=>(f8 c).1)) (by simp -dsimp only [go_sem,hn]) (by simp -dsimp only [go_sem,g0]) (by simp -dsimp only [go_sem,g1]) (by simp -dsimp only [go_sem]) (by simp -dsimp only [go_sem,hv4]) (by simp -dsimp only [go_sem]) (by simp -dsimp only [go_sem]) (fun a2 h1 wo vo n' r_n hx1 hX1 hO hL r1 r7 => ?_)
  obtain ⟨Ao,hvo,hspo⟩:=hO.slice
  rw [hvo] at r7
  simp -dsimp only [go_sem,r7,sameN_sliceA hspo,hr]
  rw [←hvo]
  refine ⟨n',wo,⟨hx4.trans hx1,hX1,hO.low hx4.next hx4.nfam⟩,?_⟩
  rcases loop_facts (ow:=rowW a1 bo) (e:=0) hn2 (by omega) f5 f6 f7 f8 rfl hL rfl with ⟨d1,d2,d3⟩|⟨d1,d2,d3,d4,d5⟩
  ·exact .inl ⟨d1,d2,d3⟩
  ·exact .inr ⟨d1,d2,d3,by omega,d5⟩
set_option maxHeartbeats 8000000 in
set_option maxRecDepth 10000 in
theorem ways_rowD (ihp:∀p,named (nms G) p→Few p→PartD r G items Gv Iv gc ic xb bk m eb em p):RowD r G items Gv Iv gc ic xb bk m eb em:=by
 intro l Av c b o css n q h hro hn2 hnd ⟨hq,hrom,hb,hX,hbook⟩
 have hsp:=hro.sp
 refine snd_go wf Try.func73 rfl rfl (n:=49) rfl (by kernel_rfl) rfl ?_
 intro a hn hg
 have hr:Try.f73.results.toList=[.tmp 6]:=rfl
 have g0:=hg 0
 have g1:=hg 1
 have g2:=hg 2
 clear hg
 simp only [List.getElem?_cons_zero,List.getElem?_cons_succ] at g0 g1 g2
 by_cases hl:l=[]
 ·subst hl
  have hW:=own_new hb 75 [.bool true,.int .i64 (q:Int),.slice none 0 0]
  have hx:=Ext.new h (CObj.cells ⟨[.bool true,.int .i64 (q:Int),.slice none 0 0],75,0,0,false⟩)
  simp -dsimp only [go_sem,g0,g1,g2,sameN_sliceA hsp,bs93 1 (by decide),repeatN,List.length_nil,Int.natCast_zero,decide_true,hr]
  exact ⟨n,[([],q)],⟨hx.toS,own_ext hx hX,ways_new mkP hW (Nat.le_refl _) KidsAt.nil⟩,Nat.le_refl _,Nat.le_succ _,Nat.le_refl _,okH_one hq⟩
 ·obtain ⟨x,l,rfl⟩:∃x l',l=x::l':=List.exists_cons_of_ne_nil hl
  have hl0:decide (((l.length+1:Nat):Int)=0)=false:=decide_eq_false (by omega)
  have hAv:=hro.hA hl
  subst hAv
  obtain ⟨hnx,hfx⟩:=hro.pl x (.head _)
  have hkx:=hro.hk 0 x rfl
  have hatx:=hro.hat 0 x rfl
  obtain ⟨Av1,c1',hcs⟩:=hkx.shape
  rw [hcs] at hkx hatx
  obtain ⟨v4,h4,hs4,hx4,hX4,hH4⟩:=ihp x hnx hfx n q h _ hn2 hnd ⟨hq,hrom,hb,hX,hbook⟩ hkx
  obtain ⟨A4,hv4,hsp4⟩:=hH4.slice
  have hix:indexAddr' Try.prog 50 (.slice (some ⟨b,o,none⟩) (l.length+1) c) (.int .i64 0)=some (.pointer (some ⟨b,o,none⟩)):=by
   have:=ia50 (b:=b) (o:=o) (c:=c) (n:=l.length+1) (i:=0) (by omega)
   simpa using this
  have hld:h.loads ⟨b,o,none⟩ 3=some [.string x.d,.string x.t,.slice Av1 x.l.length c1']:=loads_ro (n:=3) hrom (by simpa using hatx) rfl
  simp -dsimp only [go_sem,g0,g1,g2,hl0,hix,hld]
  refine ⟨_,h4,hs4,?_⟩
  rw [hv4]
  simp -dsimp only [go_sem,List.length_nil]
  refine loop_go (n:=49) (by kernel_rfl) (fun m' a' h'=>h'=h4∧a'.get 7=.slice none 0 0∧a'.get 24=.int .i64 0∧a'.get 25=.int .i64 0) ?_ 0 _ _ (by simp -dsimp only [go_sem,hn]) ⟨rfl,by simp -dsimp only [go_sem],by simp -dsimp only [go_sem];rfl,by simp -dsimp only [go_sem]⟩
  rintro m' a' h' hn' ⟨rfl,e7,e24,e25⟩
  have hz:decide ((0:Int)<0)=false:=rfl
  simp -dsimp only [go_sem,e7,e24,e25,hz,hr]
  exact ⟨n+1,[],⟨hx4,hX4,WaysAt.nil⟩,Nat.le_succ _,Nat.le_refl _,Nat.zero_le _,fun w hw=>by simp at hw⟩
end Go.Ev.G24
end
section
namespace Go.Ev.G24
open Go.RowKit Go.Proofs
variable {r:Ro} {G:List Rule} {items:List ByteArray} {Gv Iv:Option Addr} {gc ic xb bk m eb:Nat} {em:List Bool}
set_option maxHeartbeats 8000000 in
set_option maxRecDepth 10000 in
theorem ways_more {k:Nat} {x:Part} (ihp:PartS r G items Gv Iv gc ic xb bk m eb em k x) (ihA:MoreS r G items Gv Iv gc ic xb bk m eb em k x) (ihD:MoreD r G items Gv Iv gc ic xb bk m eb em x):MoreS r G items Gv Iv gc ic xb bk m eb em (k+1) x:=by
 intro n q h cs ow hn2 ⟨hq,hrom,hb,hX,hbook⟩ hkx hrun
 obtain ⟨Av1,c1',hcs⟩:=hkx.shape
 subst hcs
 refine snd_go wf Try.func74 rfl rfl (n:=44) rfl (by kernel_rfl) rfl ?_
 intro a hn hg
 have hr:Try.f74.results.toList=[.tmp 6]:=rfl
 have g0:=hg 0
 have g1:=hg 1
 have g2:=hg 2
 clear hg
 simp only [List.getElem?_cons_zero,List.getElem?_cons_succ] at g0 g1 g2
 have hP:=own_new hb 52 [.string x.d,.string x.t,.slice Av1 x.l.length c1']
 have hx0:=Ext.new h (CObj.cells ⟨[.string x.d,.string x.t,.slice Av1 x.l.length c1'],52,0,0,false⟩)
 have hX0:=own_ext hx0 hX
 have hxn:h.next≠xb:=Nat.ne_of_gt hX.2.1
 have hb0:=hbook.ext hx0
 simp -dsimp only [go_sem,g0,g1,g2]
 generalize h.newH (CObj.cells ⟨[.string x.d,.string x.t,.slice Av1 x.l.length c1'],52,0,0,false⟩)=h2 at hP hx0 hX0 hb0 ⊢
 have hb2:h2.base≤h2.next:=ext_bn (hx0.toS (S:=Only xb)) hb
 have hrom2:h2.rom=r:=hx0.rom.trans hrom
 obtain ⟨k',a1,bo,e0,q1,q2,rfl⟩:=runW_inv (t:=.again x q) (fun rc=>rfl) hrun
 have e0:k'=k:=by omega
 subst e0
 obtain ⟨v4,h4,hs4,n1,wh,⟨hx4,hX4,hH4⟩,hres,_⟩:=ihp n q h2 _ a1 hn2 ⟨hq,hrom2,hb2,hX0,hb0⟩ hkx q1
 obtain ⟨cw,f1,f2,f3,f4,f5,f6,f7,f8⟩:=heads_facts hn2 hq q1 hres
 obtain ⟨A4,hv4,hsp4⟩:=hH4.slice
 have hP4:=own_extS hx4 hP hxn
 simp -dsimp only [go_sem,g0,g1,g2,loads_own hP]
 refine ⟨_,h4,hs4,?_⟩
 rw [hv4]
 simp -dsimp only [go_sem]
 refine join_outer74 (s:=2000 - n) (bo:=bo) (pb:=h.next) (xq:=.int .i64 (q:Int)) hb2 hrom2 hx4 hX4 (Nat.lt_of_lt_of_le hX.2.1 hx0.next) (book_only hb0 hX0 hx4) ihA ihD hkx hP4 hxn hH4 (Nat.le_refl _) (by omega) f1 f2 f3 f4 (LoopS.start (fun c=>by rw [(f7 c).1];exact q2) (fun c=>(f8 c).1)) (by simp -dsimp only [go_sem,hn]) (by simp -dsimp only [go_sem,g0]) (by simp -dsimp only [go_sem,g2]) (by simp -dsimp only [go_sem]) (by simp -dsimp only [go_sem]) (by simp -dsimp only [go_sem,hv4]) (by simp -dsimp only [go_sem]) (by simp -dsimp only [go_sem]) (fun a2 h1 wo vo n' r_n hx1 hX1 hP1 hO hL r2 r4 r7 => ?_)
 have hb1:h1.base≤h1.next:=ext_bn (hx4.trans hx1) hb2
 have hW:=own_new hb1 75 (encP (.slice none 0 0) q)
 have xw:=Ext.new h1 (CObj.cells { c:=encP (.slice none 0 0) q,e:=75,fam:=0,base:=0,grown:=false })
 have hx12:=hx1.trans xw.toS
 have hlw:=(hL.len (by omega) (by omega) (by omega)).1
 obtain ⟨v',h5,a5,hO5,hext5,hkp5,hoth5,_,_,_⟩:=ways_one apP mkP (hO.ext xw) hW KidsAt.nil (ext_bn (hx4.trans hx12) hb2) hx12.next hx12.nfam (by omega)
 have hx5:=hext5 (Only xb) h4 hx12 (Nat.le_refl _) (Nat.le_refl _)
 unfold encP at a5
 simp -dsimp only [go_sem,r2,r7,bs93 1 (by decide),repeatN,builtin',a5,hr]
 refine ⟨n',wo++[([],q)],⟨hx0.toS.trans (hx4.trans hx5),hoth5 _ _ _ (by decide) (own_ext xw hX1),WS.pre (xb:=xb) hx0.toS hO5 hx4.next hx4.nfam⟩,?_⟩
 rcases loop_facts (ow:=againW q a1 bo) (e:=1) hn2 (by omega) f5 f6 f7 f8 rfl hL rfl with ⟨d1,d2,d3⟩|⟨d1,d2,d3,d4,d5⟩
 ·exact .inl ⟨d1,d2,by rw [d3];rfl⟩
 ·exact .inr ⟨d1,d2,d3,by rw [List.length_append];simp only [List.length_cons,List.length_nil];omega,okH_app d5 (okH_one hq)⟩
set_option maxHeartbeats 8000000 in
set_option maxRecDepth 10000 in
theorem ways_moreD {x:Part} (ihp:PartD r G items Gv Iv gc ic xb bk m eb em x):MoreD r G items Gv Iv gc ic xb bk m eb em x:=by
 intro n q h cs hn2 hnd ⟨hq,hrom,hb,hX,hbook⟩ hkx
 obtain ⟨Av1,c1',hcs⟩:=hkx.shape
 subst hcs
 refine snd_go wf Try.func74 rfl rfl (n:=44) rfl (by kernel_rfl) rfl ?_
 intro a hn hg
 have hr:Try.f74.results.toList=[.tmp 6]:=rfl
 have g0:=hg 0
 have g1:=hg 1
 have g2:=hg 2
 clear hg
 simp only [List.getElem?_cons_zero,List.getElem?_cons_succ] at g0 g1 g2
 have hP:=own_new hb 52 [.string x.d,.string x.t,.slice Av1 x.l.length c1']
 have hx0:=Ext.new h (CObj.cells ⟨[.string x.d,.string x.t,.slice Av1 x.l.length c1'],52,0,0,false⟩)
 have hX0:=own_ext hx0 hX
 have hxn:h.next≠xb:=Nat.ne_of_gt hX.2.1
 have hb0:=hbook.ext hx0
 simp -dsimp only [go_sem,g0,g1,g2]
 generalize h.newH (CObj.cells ⟨[.string x.d,.string x.t,.slice Av1 x.l.length c1'],52,0,0,false⟩)=h2 at hP hx0 hX0 hb0 ⊢
 have hb2:h2.base≤h2.next:=ext_bn (hx0.toS (S:=Only xb)) hb
 have hrom2:h2.rom=r:=hx0.rom.trans hrom
 obtain ⟨v4,h4,hs4,hx4,hX4,hH4⟩:=ihp n q h2 _ hn2 hnd ⟨hq,hrom2,hb2,hX0,hb0⟩ hkx
 obtain ⟨A4,hv4,hsp4⟩:=hH4.slice
 have hb4:h4.base≤h4.next:=ext_bn hx4 hb2
 have hW:=own_new hb4 75 (encP (.slice none 0 0) q)
 have xw:=Ext.new h4 (CObj.cells { c:=encP (.slice none 0 0) q,e:=75,fam:=0,base:=0,grown:=false })
 have hx12:=hx4.trans xw.toS
 obtain ⟨v',h5,a5,hO5,hext5,hkp5,hoth5,_,_,_⟩:=ways_one (n0:=h2.next) (f0:=h2.nfam) (B:=OldB h2) (F:=OldF h2) apP mkP WaysAt.nil hW KidsAt.nil (ext_bn hx12 hb2) hx12.next hx12.nfam (by simp)
 have hx5:=hext5 (Only xb) h2 hx12 (Nat.le_refl _) (Nat.le_refl _)
 unfold encP at a5
 simp -dsimp only [go_sem,g0,g1,g2,loads_own hP]
 refine ⟨_,h4,hs4,?_⟩
 rw [hv4]
 simp -dsimp only [go_sem,List.length_nil]
 refine loop_go (n:=44) (by kernel_rfl) (fun m' a' h'=>h'=h4∧a'.get 7=.slice none 0 0∧a'.get 2=.int .i64 (q:Int)∧a'.get 16=.int .i64 0∧a'.get 17=.int .i64 0) ?_ 0 _ _ (by simp -dsimp only [go_sem,hn]) ⟨rfl,by simp -dsimp only [go_sem],by simp -dsimp only [go_sem,g2],by simp -dsimp only [go_sem];rfl,by simp -dsimp only [go_sem]⟩
 rintro m' a' h' hn' ⟨rfl,e7,e2,e24,e25⟩
 have hz:decide ((0:Int)<0)=false:=rfl
 simp -dsimp only [go_sem,e7,e2,e24,e25,hz,bs93 1 (by decide),repeatN,builtin',a5,hr]
 exact ⟨n+1,[([],q)],⟨hx0.toS.trans hx5,hoth5 _ _ _ (by decide) (own_ext xw hX4),WS.pre (xb:=xb) hx0.toS hO5 (Nat.le_refl _) (Nat.le_refl _)⟩,Nat.le_succ _,Nat.le_refl _,Nat.le_refl _,okH_one hq⟩
end Go.Ev.G24
end
section
namespace Go.Ev.G24
open Go.RowKit Go.Proofs
variable {r:Ro} {G:List Rule} {items:List ByteArray} {Gv Iv:Option Addr} {gc ic xb bk m eb:Nat} {em:List Bool} {h:Hp} {e:TypeId} {B F:Nat→Prop}
theorem store_rows {h':Hp} {b f:Nat} (e1:h'.base=h.base) (e3:h'.next=h.next) (e4:h.nfam≤h'.nfam)
  (e5:∀x,x<h.next→x≠b→h'.objs.get x=h.objs.get x) (e6:∀q,q<h.nfam→¬(q=f∧f≠0)→h'.fams.get q=h.fams.get q):KeepsE (fun x=>x=b) (fun q=>q=f∧f≠0) h h':=by
 intro e d cs q k hb hf
 refine ⟨by rw [e1];exact k.lo,by have:=k.lt;omega,?_,fun c=>Nat.lt_of_lt_of_le (k.fl c) e4⟩
 obtain ⟨bs,g,hr⟩:=k.row
 refine ⟨bs,g,?_⟩
 have hfam:=rowE_fam k hr
 unfold Hp.row at hr ⊢
 rw [e5 d k.lt hb]
 cases hg:h.objs.get d with
 | none=>rw [hg] at hr;cases hr
 | some ob =>
   rw [hg] at hr
   cases ob with
   | cells r =>
     simp only at hr ⊢
     cases hrf:r.fam with
     | zero=>rw [hrf] at hr;exact hr
     | succ z =>
       rw [hrf] at hr
       simp only at hr ⊢
       have hre:r=⟨cs,e,q,bs,g⟩:=by
        split at hr
        ·split at hr
         ·injection hr
         ·cases hr
        ·cases hr
       have hqz:q=z+1:=by rw [←hrf,hre]
       rw [e6 (z+1) (by rw [←hqz];exact k.fl (by omega)) (by rw [←hqz];exact hf)]
       exact hr
   | map es k=>cases hr
   | sIter s p=>cases hr
   | mIter a b c d=>cases hr
theorem rowAt_E {b f:Nat} {cs:List Value} (k:RowAt h b cs f):RowE 31 h b cs f:=⟨k.lo,k.lt,k.row,k.fl⟩
theorem rowE_At {b f:Nat} {cs:List Value} (k:RowE 31 h b cs f):RowAt h b cs f:=⟨k.lo,k.lt,k.row,k.fl⟩
theorem splice_set:∀(c:List Value) (i:Nat) (x:Value),i<c.length→splice c i [x]=some (c.set i x)
 | [],i,x,h=>by simp at h
 | y::c,0,x,h=>by
   show (match splice c 0 [] with|some r=>some (x::r)|none=>none)=_
   have:splice c 0 []=some c:=by cases c<;>rfl
   rw [this]
   rfl
 | y::c,i+1,x,h=>by
   show (match splice c i [x] with|some r=>some (y::r)|none=>none)=_
   rw [splice_set c i x (by simpa using h)]
   rfl
theorem row_fam_some {b f bs:Nat} {cs:List Value} {g:Bool} {e:TypeId} (hrow:h.row b=some ⟨cs,e,f+1,bs,g⟩):h.objs.get b=some (.cells ⟨cs,e,f+1,bs,g⟩)∧∃l,h.fams.get (f+1)=some l∧l.any (fun m=>Nat.beq m.b b)=true:=by
 unfold Hp.row at hrow
 split at hrow
 ·rename_i r hg
  split at hrow
  ·rename_i e0
   injection hrow with hrow
   rw [hrow] at e0
   cases e0
  ·rename_i f0' e0
   split at hrow
   ·rename_i l hl0
    split at hrow
    ·rename_i hany
     injection hrow with hrow
     subst hrow
     have e1:f+1=f0'+1:=e0
     exact ⟨hg,l,by rw [e1];exact hl0,hany⟩
    ·cases hrow
   ·cases hrow
 ·cases hrow
theorem kill_any {l:List Mem} {b lo hi:Nat} (h:l.any (fun m=>Nat.beq m.b b)=true):(kill l b lo hi).any (fun m=>Nat.beq m.b b)=true:=by
 rw [List.any_eq_true] at h ⊢
 obtain ⟨x,h1,h2⟩:=h
 refine ⟨x,?_,h2⟩
 unfold kill
 rw [List.mem_filter]
 exact ⟨h1,by rw [h2];rfl⟩
set_option maxRecDepth 10000 in
theorem rowE_store {b f i:Nat} {cs:List Value} {x:Value} (hr:RowE e h b cs f) (hi:i<cs.length) (hx:oneCell x=true) :
  ∃h',h.stores ⟨b,i,none⟩ [x]=some h'∧RowE e h' b (cs.set i x) f∧h'.base=h.base∧h'.ro=h.ro∧h'.next=h.next∧h'.nfam=h.nfam∧(∀y,y≠b→h'.objs.get y=h.objs.get y)∧(∀q,¬(q=f∧f≠0)→h'.fams.get q=h.fams.get q):=by
 obtain ⟨bs,g,hrow⟩:=hr.row
 have hall:[x].all oneCell=true:=by simp [hx]
 cases f with
 | zero =>
   refine ⟨h.put b (.cells ⟨cs.set i x,e,0,bs,g⟩),?_,⟨hr.lo,hr.lt,⟨bs,g,?_⟩,fun c=>absurd rfl c⟩,rfl,rfl,rfl,rfl,fun y hy => ?_,fun q _=>rfl⟩
   ·simp only [Hp.stores,hall,hrow,splice_set cs i x hi]
   ·simp only [Hp.row,get_putH,if_true]
   ·simp only [get_putH,if_neg hy]
 | succ f =>
   obtain ⟨hobj,l,hl,hany⟩:=row_fam_some hrow
   refine ⟨{ h.put b (.cells ⟨cs.set i x,e,f+1,bs,g⟩) with fams:=h.fams.put (f+1) (kill l b (bs+i) (bs+i+[x].length)) },?_,⟨hr.lo,hr.lt,⟨bs,g,?_⟩,fun c=>hr.fl c⟩,rfl,rfl,rfl,rfl,fun y hy => ?_,fun q hq => ?_⟩
   ·simp only [Hp.stores,hall,hrow,splice_set cs i x hi,hl]
   ·simp only [Hp.row,get_putH,if_true,Tr.get_put,kill_any hany]
   ·simp only [get_putH,if_neg hy]
   ·simp only [Tr.get_put]
    rw [if_neg (fun c=>hq ⟨c,Nat.succ_ne_zero _⟩)]
theorem take3_set {c:List Value} {k n:Nat} {x:Value} (h:k<n∨n+3≤k):((c.set k x).drop n).take 3=(c.drop n).take 3:=by
 apply List.ext_getElem?
 intro t
 rw [List.getElem?_take,List.getElem?_take]
 split
 ·rw [List.getElem?_drop,List.getElem?_drop,List.getElem?_set_ne (by omega)]
 ·rfl
theorem take3_put {c:List Value} {n:Nat} {x y u z:Value} (h:takeN (c.drop n) 3=some [x,y,u]):takeN ((c.set (n+2) z).drop n) 3=some [x,y,z]:=by
 obtain ⟨q1,q2⟩:=takeN_some _ _ _ h
 have e:(c.set (n+2) z).drop n=(c.drop n).set 2 z:=by
  rw [List.drop_set,if_neg (by omega),Nat.add_sub_cancel_left]
 rw [e]
 match c.drop n,q1,q2 with
 | a::b::d::l,_,q2 =>
   simp only [List.take_succ_cons,List.take_zero,List.cons.injEq,and_true] at q2
   obtain ⟨rfl,rfl,rfl⟩:=q2
   cases l<;>rfl
theorem take3_same {c:List Value} {k n:Nat} {x:Value} {l:List Value} (h:k<n∨n+3≤k) (e:takeN (c.drop n) 3=some l):takeN ((c.set k x).drop n) 3=some l:=by
 obtain ⟨q1,q2⟩:=takeN_some _ _ _ e
 rw [List.length_drop] at q1
 rw [takeN_ok _ _ (by rw [List.length_drop,List.length_set];exact q1),take3_set h,←q2]
set_option maxRecDepth 10000 in
theorem ways_store {n0 f0 i:Nat} {ws:List Way} {v:Value} {w:Way} {A':Option Addr} {c':Nat} {ks':List Part} (k:WS h n0 f0 B F ws v) (hi:ws[i]? = some w) (hk:KidsAt h (fun x=>B x∨ownB v x) (fun q=>F q∨ownF h v q) ks' (.slice A' ks'.length c')) :
  ∃b h',v=.slice (some ⟨b,0,none⟩) ws.length ws.length∧h.stores ⟨b,i*3+2,none⟩ [.slice A' ks'.length c']=some h'∧WS h' n0 f0 B F (ws.set i (ks',w.2)) v∧(∀(S:Nat→Prop) (h0:Hp),ExtS S h0 h→h0.next≤n0→h0.nfam≤f0→ExtS S h0 h')∧h'.next=h.next∧(∀b' e' c',e'≠75→h.own b' e' c'→h'.own b' e' c'):=by
 obtain ⟨cs,k1,k2⟩:=k
 have hil:=get_lt' hi
 rcases k1 with ⟨h0,_⟩|⟨b,f,rfl,hr,hl,hb0,hf⟩
 ·omega
 obtain ⟨h',s1,s2,s3,s4,s5,s6,s7,s8⟩:=rowE_store (i:=i*3+2) (x:=.slice A' ks'.length c') hr (by omega) rfl
 have hK:Keeps (fun x=>B x∨ownB (.slice (some ⟨b,0,none⟩) ws.length ws.length) x) (fun q=>F q∨ownF h (.slice (some ⟨b,0,none⟩) ws.length ws.length) q) h h':=by
  refine ⟨s3,s4,Nat.le_of_eq s5.symm,Nat.le_of_eq s6.symm,fun d cs1 q k hb hf=>rowE_At (store_rows s3 s5 (Nat.le_of_eq s6.symm) (fun y _ hy=>s7 y hy) (fun q _ hq=>s8 q hq) _ _ _ _ (rowAt_E k) (fun c=>hb (.inr c)) (fun c=>hf (.inr ((ownF_eqE hr q).2 c))))⟩
 have hF:∀q,ownF h' (.slice (some ⟨b,0,none⟩) ws.length ws.length) q→ownF h (.slice (some ⟨b,0,none⟩) ws.length ws.length) q:=fun q c=>(ownF_eqE hr q).2 ((ownF_eqE s2 q).1 c)
 have mv:∀{ks:List Part} {kv:Value},KidsAt h (fun x=>B x∨ownB (.slice (some ⟨b,0,none⟩) ws.length ws.length) x) (fun q=>F q∨ownF h (.slice (some ⟨b,0,none⟩) ws.length ws.length) q) ks kv→KidsAt h' (fun x=>B x∨ownB (.slice (some ⟨b,0,none⟩) ws.length ws.length) x) (fun q=>F q∨ownF h' (.slice (some ⟨b,0,none⟩) ws.length ws.length) q) ks kv :=
  fun k=>(k.keep hK).more (fun b _ c=>c) (fun f c=>.inl (c.elim .inl (fun c=>.inr (hF f c))))
 refine ⟨b,h',rfl,s1,⟨_,.inr ⟨b,f,by rw [List.length_set],s2,by rw [List.length_set,List.length_set];exact hl,hb0,hf⟩,fun j u hu => ?_⟩,fun S h0 x q1 q2=>⟨s3.trans x.base,s4.trans x.ro,by rw [s5];exact x.next,fun y hy hs=>by rw [s7 y (by omega)];exact x.objs y hy hs,by rw [s6];exact x.nfam,fun q hq=>by rw [s8 q (fun c=>by have:=hf c.2;omega)];exact x.fams q hq⟩,s5,fun b' e' c' hne o => ?_⟩
 ·by_cases hj:j=i
  ·subst hj
   rw [List.getElem?_set_self hil] at hu
   injection hu with hu
   subst hu
   obtain ⟨kv,a1,a2⟩:=k2 j w hi
   exact ⟨.slice A' ks'.length c',take3_put a1,mv hk⟩
  ·rw [List.getElem?_set_ne (fun c=>hj c.symm)] at hu
   obtain ⟨kv,a1,a2⟩:=k2 j u hu
   have hjl:=get_lt' hu
   exact ⟨kv,take3_same (by omega) a1,mv a2⟩
 ·have hbb:=rowE_ne hr o hne
  exact ⟨by rw [s3];exact o.1,by have:=o.2.1;omega,by rw [s7 b' hbb];exact o.2.2⟩
end Go.Ev.G24
end
section
namespace Go.Ev.G24
open Go.RowKit Go.Proofs
variable {r:Ro} {G:List Rule} {items:List ByteArray} {Gv Iv:Option Addr} {gc ic xb bk m eb:Nat} {em:List Bool}
theorem map_set {f:Way→Way} {ws:List Way} {j:Nat} {w:Way} (hj:ws[j]? = some w):((ws.take j).map f++ws.drop j)[j]? = some w∧((ws.take j).map f++ws.drop j).set j (f w)=(ws.take (j+1)).map f++ws.drop (j+1):=by
 have hl:=get_lt' hj
 have hll:((ws.take j).map f).length=j:=by rw [List.length_map,List.length_take];omega
 have hdr:ws.drop j=w::ws.drop (j+1):=by
  rw [List.drop_eq_getElem_cons hl]
  rw [List.getElem?_eq_getElem hl] at hj
  injection hj with hj
  rw [hj]
 constructor
 ·rw [List.getElem?_append_right (by omega),hll,Nat.sub_self,hdr]
  rfl
 ·rw [List.set_append_right _ _ (by omega),hll,Nat.sub_self,hdr,take_map_succ f hj]
  simp
theorem WaysAt.getT {h:Hp} {n0 f0:Nat} {B F:Nat→Prop} {ws:List Way} {v:Value} (k:WS h n0 f0 B F ws v) {i:Nat} {w:Way} (hi:ws[i]? = some w):∃b A c,v=.slice (some ⟨b,0,none⟩) ws.length ws.length∧spotless A=true∧KidsAt h (fun x=>B x∨ownB v x) (fun q=>F q∨ownF h v q) w.1 (.slice A w.1.length c) ∧
  ∀h1,Ext h h1→h1.load ⟨b,i*3+2,none⟩=some (.slice A w.1.length c)∧h1.load ⟨b,i*3+1,none⟩=some (.int .i64 (w.2:Int)):=by
 obtain ⟨cs,k1,k2⟩:=k
 obtain ⟨kv,a1,a2⟩:=k2 i w hi
 obtain ⟨A,c,rfl,hsp⟩:=a2.slice
 rcases k1 with ⟨h0,_⟩|⟨b,f,rfl,hr,_⟩
 ·have:=get_lt' hi;omega
 ·refine ⟨b,A,c,rfl,hsp,a2,fun h1 x => ?_⟩
  have hr1:=rowE_keep (S:=fun _=>False) x.toS hr (fun c=>c)
  obtain ⟨q1,q2⟩:=takeN_some _ _ _ a1
  have g1:(cs.drop (i*3))[1]? = some (.int .i64 (w.2:Int)):=by
   have:=congrArg (fun l=>l[1]?) q2
   simp only [encP,List.getElem?_cons_zero,List.getElem?_cons_succ] at this
   rw [List.getElem?_take_of_lt (by decide)] at this
   exact this.symm
  have g2:(cs.drop (i*3))[2]? = some (.slice A w.1.length c):=by
   have:=congrArg (fun l=>l[2]?) q2
   simp only [encP,List.getElem?_cons_zero,List.getElem?_cons_succ] at this
   rw [List.getElem?_take_of_lt (by decide)] at this
   exact this.symm
  rw [List.getElem?_drop] at g1 g2
  exact ⟨by rw [rowE_load hr1];exact g2,by rw [rowE_load hr1];exact g1⟩
set_option maxHeartbeats 8000000 in
set_option maxRecDepth 10000 in
theorem ways_map_rule {h0 hs:Hp} {nr fr n:Nat} {ws:List Way} {v:Value} {pb:Nat} {d t:ByteArray} {kvp:Value} (hb:h0.base≤h0.next) (hx:ExtS (Only xb) h0 hs) (hX:hs.own xb 92 (sR items Iv ic bk n)) (hP:hs.own pb 52 [.string d,.string t,kvp])
  (hnr:h0.next≤nr) (hfr:h0.nfam≤fr) (hR:WS hs nr fr (OldB h0) (OldF h0) ws v) (hlen:ws.length≤500000)
  {a:Ev.A} {Q:Ex→Ev.A→Hp→Prop} (hn:a.n=192) (g4:a.get 4=.pointer (some ⟨pb,0,none⟩)) (gV:a.get 7=v) (gL:a.get 95=.int .i64 (ws.length:Int)) (gJ:a.get 96=.int .i64 0)
  (hq:∀a1 h1,a1.n=192→ExtS (Only xb) h0 h1→h1.own xb 92 (sR items Iv ic bk n)→WS h1 nr fr (OldB h0) (OldF h0) (ws.map fun w=>([ruleT t w.1],w.2)) v→a1.get 7=v→Q (.exit 1) a1 h1) :
  Th Try.prog (bodyAt Try.f46 [1,1,0,1,0,1,1,1,0,1,0,1,0]) a hs Q ⟨⟩ ⟨⟩:=by
 obtain ⟨Ar,hvr,hspr⟩:=hR.slice
 simp only [bodyAt,nav,Try.f46]
 refine loop_go (n:=192) (by kernel_rfl) (fun m' a' h'=>∃(j:Nat),j≤ws.length∧m'=ws.length - j∧ExtS (Only xb) h0 h'∧h'.own xb 92 (sR items Iv ic bk n)∧h'.own pb 52 [.string d,.string t,kvp]∧WS h' nr fr (OldB h0) (OldF h0) ((ws.take j).map (fun w=>([ruleT t w.1],w.2))++ws.drop j) v ∧
  a'.get 4=.pointer (some ⟨pb,0,none⟩)∧a'.get 7=v∧a'.get 95=.int .i64 (ws.length:Int)∧a'.get 96=.int .i64 (j:Int)) ?_ ws.length _ _ hn ⟨0,Nat.zero_le _,rfl,hx,hX,hP,by simpa using hR,g4,gV,gL,gJ⟩
 rintro m' a' h' hn' ⟨j,hj,rfl,hx',hX',hP',hR',e4,eV,eL,eJ⟩
 have hb':h'.base≤h'.next:=ext_bn hx' hb
 by_cases hlt:j<ws.length
 rotate_left
 ·have hi0:decide ((j:Int)<(ws.length:Int))=false:=decide_eq_false (by omega)
  have hjl:j=ws.length:=by omega
  subst hjl
  rw [List.take_length,List.drop_length,List.append_nil] at hR'
  simp -dsimp only [go_sem,e4,eV,eL,eJ,hi0]
  exact hq _ h' (by simp -dsimp only [go_sem,hn']) hx' hX' hR' (by simp -dsimp only [go_sem,eV])
 have hi1:decide ((j:Int)<(ws.length:Int))=true:=decide_eq_true (Int.ofNat_lt.2 hlt)
 obtain ⟨⟨ks,en⟩,hwj⟩:∃w,ws[j]? = some w:=⟨_,List.getElem?_eq_getElem hlt⟩
 obtain ⟨hwj2,hset⟩:=map_set (f:=fun w=>([ruleT t w.1],w.2)) hwj
 have hlenj:((ws.take j).map (fun w:Way=>([ruleT t w.1],w.2))++ws.drop j).length=ws.length:=by rw [List.length_append,List.length_map,List.length_take,List.length_drop];omega
 obtain ⟨br,Ark,crk,hvr2,hsprk,Kr,ldr⟩:=hR'.getT hwj2
 rw [hlenj] at hvr2
 have hlt':=hlt
 have hrow:=own_new hb' 31 [.string ⟨#[114,117,108,101]⟩,.string t,.slice Ark ks.length crk]
 have x1:=Ext.new h' (CObj.cells ⟨[.string ⟨#[114,117,108,101]⟩,.string t,.slice Ark ks.length crk],31,0,0,false⟩)
 obtain ⟨ll0,_⟩:=ldr _ (Ext.refl h')
 obtain ⟨ll1,_⟩:=ldr _ x1
 have hP1:=own_ext x1 hP'
 have hX1:=own_ext x1 hX'
 have hR1:=hR'.ext x1
 have hnb:¬(OldB h0 h'.next∨ownB v h'.next):=fun c=>c.elim (fun c=>by have:=hx'.next;have:h'.next<h0.next:=c;omega) (fun c=>by have:=(hR'.lt c).2;omega)
 have hnf:¬(OldF h0 0∨ownF h' v 0):=fun c=>c.elim (fun c=>c.1 rfl) (fun c=>(hR'.flt c).1 rfl)
 have K1:KidsAt _ (fun x=>OldB h0 x∨ownB v x) (fun q=>OldF h0 q∨ownF h' v q) [ruleT t ks] (.slice (some ⟨h'.next,0,none⟩) 1 1):=kids_new hrow hnb hnf ((Kr.more (fun b _ c=>c) (fun f c=>.inl c)).keep (keepsE x1).any)
 have K2:=K1.more (B':=fun x=>OldB h0 x∨ownB v x) (F':=fun q=>OldF h0 q∨ownF (h'.newH (CObj.cells ⟨[.string ⟨#[114,117,108,101]⟩,.string t,.slice Ark ks.length crk],31,0,0,false⟩)) v q) (fun b _ c=>c) (fun f c=>.inl (c.elim .inl (fun c=>.inr (hR'.ownF_same (S:=fun _=>False) x1.toS (fun _ _ c=>c) c))))
 obtain ⟨b3,h3,hv3,hst,hR3,hext3,hnx3,hoth3⟩:=ways_store (ks':=[ruleT t ks]) hR1 hwj2 K2
 rw [hlenj] at hv3
 have hb3:b3=br:=by
  rw [hvr2] at hv3
  injection hv3 with e1
  injection e1 with e1
  injection e1 with e1
  exact e1.symm
 subst hb3
 have hst:(h'.newH (CObj.cells ⟨[.string ⟨#[114,117,108,101]⟩,.string t,.slice Ark ks.length crk],31,0,0,false⟩)).stores ⟨b3,j*3+2,none⟩ [.slice (some ⟨h'.next,0,none⟩) 1 1]=some h3:=hst
 have hx3:=hext3 (Only xb) h0 (hx'.trans x1.toS) hnr hfr
 rw [hvr2] at eV
 simp -dsimp only [go_sem,e4,eV,eL,eJ,hi1]
 refine Dw_text (n:=192) [[],[],[],[2],[],[],[4,5],[4,5,6],[4,5,6,7],[2,3,4,5,6,7,8],[2,3,4,5,6,7,8,9],[0,1,2,3,4,5,6,7,8,9,10],[0,1,2,3,4,5,6,7,8,9,10,11],[0,1,2,3,4,5,6,7,8,9,10,11,12]] (by simp -dsimp only [go_sem,hn']) (by kernel_rfl) ?_
 simp -dsimp only [go_sem,e4,eV,eL,eJ,load_own hP',load_own hP1,ia93 hlt',ll0,ll1,sameN_sliceA hsprk,bs29 1 (by decide),repeatN,hst]
 simp -dsimp only [go_sem,e4,eV,eL,eJ,wrap64_succ hlt (by omega)]
 rw [hset] at hR3
 exact ⟨ws.length - (j+1),by omega,j+1,hlt,rfl,hx3,hoth3 _ _ _ (by decide) hX1,hoth3 _ _ _ (by decide) hP1,hR3,hvr2.symm,rfl⟩
set_option maxHeartbeats 8000000 in
set_option maxRecDepth 10000 in
theorem ways_map_many {h0 hs:Hp} {nr fr n:Nat} {ws:List Way} {v:Value} {pb:Nat} {d t:ByteArray} {kvp:Value} (hb:h0.base≤h0.next) (hx:ExtS (Only xb) h0 hs) (hX:hs.own xb 92 (sR items Iv ic bk n)) (hP:hs.own pb 52 [.string d,.string t,kvp])
  (hnr:h0.next≤nr) (hfr:h0.nfam≤fr) (hR:WS hs nr fr (OldB h0) (OldF h0) ws v) (hlen:ws.length≤500000)
  {a:Ev.A} {Q:Ex→Ev.A→Hp→Prop} (hn:a.n=192) (g4:a.get 4=.pointer (some ⟨pb,0,none⟩)) (gV:a.get 12=v) (gL:a.get 148=.int .i64 (ws.length:Int)) (gJ:a.get 149=.int .i64 0)
  (hq:∀a1 h1,a1.n=192→ExtS (Only xb) h0 h1→h1.own xb 92 (sR items Iv ic bk n)→WS h1 nr fr (OldB h0) (OldF h0) (ws.map fun w=>([manyT w.1],w.2)) v→a1.get 12=v→Q (.exit 5) a1 h1) :
  Th Try.prog (bodyAt Try.f46 [1,1,0,1,0,1,1,1,1,1,1,1,1,1,0,1,0,1,0]) a hs Q ⟨⟩ ⟨⟩:=by
 obtain ⟨Ar,hvr,hspr⟩:=hR.slice
 simp only [bodyAt,nav,Try.f46]
 refine loop_go (n:=192) (by kernel_rfl) (fun m' a' h'=>∃(j:Nat),j≤ws.length∧m'=ws.length - j∧ExtS (Only xb) h0 h'∧h'.own xb 92 (sR items Iv ic bk n)∧h'.own pb 52 [.string d,.string t,kvp]∧WS h' nr fr (OldB h0) (OldF h0) ((ws.take j).map (fun w=>([manyT w.1],w.2))++ws.drop j) v ∧
  a'.get 4=.pointer (some ⟨pb,0,none⟩)∧a'.get 12=v∧a'.get 148=.int .i64 (ws.length:Int)∧a'.get 149=.int .i64 (j:Int)) ?_ ws.length _ _ hn ⟨0,Nat.zero_le _,rfl,hx,hX,hP,by simpa using hR,g4,gV,gL,gJ⟩
 rintro m' a' h' hn' ⟨j,hj,rfl,hx',hX',hP',hR',e4,eV,eL,eJ⟩
 have hb':h'.base≤h'.next:=ext_bn hx' hb
 by_cases hlt:j<ws.length
 rotate_left
 ·have hi0:decide ((j:Int)<(ws.length:Int))=false:=decide_eq_false (by omega)
  have hjl:j=ws.length:=by omega
  subst hjl
  rw [List.take_length,List.drop_length,List.append_nil] at hR'
  simp -dsimp only [go_sem,e4,eV,eL,eJ,hi0]
  exact hq _ h' (by simp -dsimp only [go_sem,hn']) hx' hX' hR' (by simp -dsimp only [go_sem,eV])
 have hi1:decide ((j:Int)<(ws.length:Int))=true:=decide_eq_true (Int.ofNat_lt.2 hlt)
 obtain ⟨⟨ks,en⟩,hwj⟩:∃w,ws[j]? = some w:=⟨_,List.getElem?_eq_getElem hlt⟩
 obtain ⟨hwj2,hset⟩:=map_set (f:=fun w=>([manyT w.1],w.2)) hwj
 have hlenj:((ws.take j).map (fun w:Way=>([manyT w.1],w.2))++ws.drop j).length=ws.length:=by rw [List.length_append,List.length_map,List.length_take,List.length_drop];omega
 obtain ⟨br,Ark,crk,hvr2,hsprk,Kr,ldr⟩:=hR'.getT hwj2
 rw [hlenj] at hvr2
 have hlt':=hlt
 have hrow:=own_new hb' 31 [.string ⟨#[109,97,110,121]⟩,.string ⟨#[]⟩,.slice Ark ks.length crk]
 have x1:=Ext.new h' (CObj.cells ⟨[.string ⟨#[109,97,110,121]⟩,.string ⟨#[]⟩,.slice Ark ks.length crk],31,0,0,false⟩)
 obtain ⟨ll0,_⟩:=ldr _ (Ext.refl h')
 obtain ⟨ll1,_⟩:=ldr _ x1
 have hP1:=own_ext x1 hP'
 have hX1:=own_ext x1 hX'
 have hR1:=hR'.ext x1
 have hnb:¬(OldB h0 h'.next∨ownB v h'.next):=fun c=>c.elim (fun c=>by have:=hx'.next;have:h'.next<h0.next:=c;omega) (fun c=>by have:=(hR'.lt c).2;omega)
 have hnf:¬(OldF h0 0∨ownF h' v 0):=fun c=>c.elim (fun c=>c.1 rfl) (fun c=>(hR'.flt c).1 rfl)
 have K1:KidsAt _ (fun x=>OldB h0 x∨ownB v x) (fun q=>OldF h0 q∨ownF h' v q) [manyT ks] (.slice (some ⟨h'.next,0,none⟩) 1 1):=kids_new hrow hnb hnf ((Kr.more (fun b _ c=>c) (fun f c=>.inl c)).keep (keepsE x1).any)
 have K2:=K1.more (B':=fun x=>OldB h0 x∨ownB v x) (F':=fun q=>OldF h0 q∨ownF (h'.newH (CObj.cells ⟨[.string ⟨#[109,97,110,121]⟩,.string ⟨#[]⟩,.slice Ark ks.length crk],31,0,0,false⟩)) v q) (fun b _ c=>c) (fun f c=>.inl (c.elim .inl (fun c=>.inr (hR'.ownF_same (S:=fun _=>False) x1.toS (fun _ _ c=>c) c))))
 obtain ⟨b3,h3,hv3,hst,hR3,hext3,hnx3,hoth3⟩:=ways_store (ks':=[manyT ks]) hR1 hwj2 K2
 rw [hlenj] at hv3
 have hb3:b3=br:=by
  rw [hvr2] at hv3
  injection hv3 with e1
  injection e1 with e1
  injection e1 with e1
  exact e1.symm
 subst hb3
 have hst:(h'.newH (CObj.cells ⟨[.string ⟨#[109,97,110,121]⟩,.string ⟨#[]⟩,.slice Ark ks.length crk],31,0,0,false⟩)).stores ⟨b3,j*3+2,none⟩ [.slice (some ⟨h'.next,0,none⟩) 1 1]=some h3:=hst
 have hx3:=hext3 (Only xb) h0 (hx'.trans x1.toS) hnr hfr
 rw [hvr2] at eV
 simp -dsimp only [go_sem,e4,eV,eL,eJ,hi1,ia93 hlt',ll0,ll1,bs29 1 (by decide),repeatN,hst]
 simp -dsimp only [go_sem,e4,eV,eL,eJ,wrap64_succ hlt (by omega)]
 rw [hset] at hR3
 exact ⟨ws.length - (j+1),by omega,j+1,hlt,rfl,hx3,hoth3 _ _ _ (by decide) hX1,hoth3 _ _ _ (by decide) hP1,hR3,hvr2.symm,rfl⟩
def AltS (G:List Rule) (items:List ByteArray) (l:List Part) (q k n:Nat) (o:OutW) (i:Nat) (wo:List Way) (n':Nat):Prop :=
 okH items.length (2001 - n) wo∧n≤n'∧((n'≤2000∧wo.length+n≤n'∧∃b',runW G items k (.alts (l.drop i) q)=some b'∧o.1=wo++b'.1∧n'+b'.2.1=n+o.2.1) ∨
  (2000<n'∧2000<n+o.2.1∧n'≤capP n+i∧wo.length≤2*(2000 - n)+1))
theorem AltS.start {l:List Part} {q k n:Nat} {o:OutW} (hn:n≤2000) (h:runW G items k (.alts l q)=some o):AltS G items l q k n o 0 [] n :=
 ⟨fun w hw=>by simp at hw,Nat.le_refl _,.inl ⟨hn,by simp,o,by rw [List.drop_zero];exact h,by simp,rfl⟩⟩
theorem AltS.split {l:List Part} {q k n n' i:Nat} {o:OutW} {p:Part} {wo:List Way} (L:AltS G items l q k n o i wo n') (hn:n'≤2000) (hi:l[i]? = some p) :
  ∃a b'',runW G items k (.part p q)=some a∧runW G items k (.alts (l.drop (i+1)) q)=some b''∧o.1=wo++(a.1++b''.1)∧n'+(a.2.1+b''.2.1)=n+o.2.1:=by
 obtain ⟨_,_,⟨h1,h2,b',h3,h4,h5⟩|⟨h1,_⟩⟩:=L
 ·have hdr:l.drop i=p::l.drop (i+1):=by
   have hl:=get_lt' hi
   rw [List.drop_eq_getElem_cons hl]
   rw [List.getElem?_eq_getElem hl] at hi
   injection hi with hi
   rw [hi]
  rw [hdr] at h3
  obtain ⟨k',a,c,e0,q1,q2,q3⟩:=runW_inv (t:=.alts (p::l.drop (i+1)) q) (fun rc=>rfl) h3
  subst q3
  exact ⟨a,c,runW_le (by omega) _ _ q1,runW_le (by omega) _ _ q2,h4,h5⟩
 ·omega
theorem AltS.stepA {l:List Part} {q k n n' n2 i:Nat} {o a:OutW} {p:Part} {wo ws:List Way} (hn:n≤2000) (L:AltS G items l q k n o i wo n') (hn':n'≤2000) (hi:l[i]? = some p) (hq:q≤items.length) (ha:runW G items k (.part p q)=some a)
  (hres:ResS items.length a n' n2 ws (capP n') (2*(2000 - n')+1)):AltS G items l q k n o (i+1) (wo++ws) n2:=by
 obtain ⟨a',b'',q1,q2,q3,q4⟩:=L.split hn' hi
 have:=runW_det q1 ha
 subst this
 obtain ⟨L1,L0,L2⟩:=L
 have hwo:wo.length+n≤n':=by
  rcases L2 with ⟨_,a,_⟩|⟨a,_⟩
  ·exact a
  ·omega
 have hll:(wo++ws).length=wo.length+ws.length:=List.length_append
 rcases hres with ⟨r1,rfl,rfl⟩|⟨r1,r2,r3,r4,r5⟩
 ·have hlen:=runW_len _ _ _ q1
  have hsl:slackW (.part p q)=0:=rfl
  have hok2:=runW_ok rfl _ _ _ 0 q1 (by exact ⟨hq,rfl⟩) (by omega)
  exact ⟨okH_app L1 (hok2.mono (by omega)),by omega,.inl ⟨r1,by omega,b'',q2,by rw [q3,List.append_assoc],by omega⟩⟩
 ·refine ⟨okH_app L1 (r5.mono (by omega)),by omega,.inr ⟨r2,by omega,?_,by omega⟩⟩
  unfold capP at r3 ⊢
  omega
theorem AltS.stepD {l:List Part} {q k n n' i:Nat} {o:OutW} {wo:List Way} (L:AltS G items l q k n o i wo n') (hn':2000<n'):AltS G items l q k n o (i+1) (wo++[]) (n'+1):=by
 rw [List.append_nil]
 obtain ⟨L1,L0,⟨a,_⟩|⟨a1,a2,a3,a4⟩⟩:=L
 ·omega
 ·exact ⟨L1,by omega,.inr ⟨by omega,a2,by omega,a4⟩⟩
theorem AltS.done {l:List Part} {q k n n':Nat} {o:OutW} {wo:List Way} (L:AltS G items l q k n o l.length wo n') (hl:l.length≤100000) :
  (n+o.2.1≤2000∧n'=n+o.2.1∧wo=o.1)∨(2000<n+o.2.1∧2000<n'∧n'≤capP n+100000∧wo.length≤2*(2000 - n)+1∧okH items.length (2001 - n) wo):=by
 obtain ⟨L1,L0,⟨a1,a2,b',a3,a4,a5⟩|⟨a1,a2,a3,a4⟩⟩:=L
 ·rw [List.drop_length] at a3
  have:=runW_det a3 (show runW G items 1 (.alts [] q)=some ([],0,0) from rfl)
  subst this
  exact .inl ⟨by simp at a5;omega,by simpa using a5,by rw [a4];simp⟩
 ·exact .inr ⟨a2,a1,by omega,a4,L1⟩
set_option maxHeartbeats 8000000 in
set_option maxRecDepth 10000 in
theorem ways_or {l:List Part} {Av:Option Addr} {c b o q n k:Nat} {css:Nat→List Value} {ow:OutW} (hn2:n≤2000) (ihp:∀(i:Nat) (p:Part),l[i]? = some p→PartS r G items Gv Iv gc ic xb bk m eb em k p) (ihD:∀(i:Nat) (p:Part),l[i]? = some p→PartD r G items Gv Iv gc ic xb bk m eb em p)
  (hlb:l.length≤100000) (hA:l≠[]→Av=some ⟨b,o,none⟩) (hat:∀(i:Nat) (p:Part),l[i]? = some p→roAt r b (o+i*3) (css i)) (hk:∀(i:Nat) (p:Part),l[i]? = some p→RoPart r p (css i)) (hrun:runW G items k (.alts l q)=some ow)
  {h2:Hp} {a:Ev.A} {Q:Ex→Ev.A→Hp→Prop} (hn:a.n=192) (hpre:PreS r G items Gv Iv gc ic xb bk m eb em n q h2)
  (g0:a.get 0=.pointer (some ⟨xb,0,none⟩)) (g2:a.get 2=.int .i64 (q:Int)) (g9:a.get 9=.slice none 0 0) (g124:a.get 124=.slice Av l.length c) (g125:a.get 125=.int .i64 (l.length:Int)) (g126:a.get 126=.int .i64 0)
  (hq:∀a1 h1 wo vo n',a1.n=192→PostS items Iv ic xb bk h2 vo h1 n' wo→AltS G items l q k n ow l.length wo n'→a1.get 9=vo→Q (.exit 3) a1 h1) :
  Th Try.prog (bodyAt Try.f46 [1,1,0,1,0,1,1,1,1,1,1,1,0,1,0,1,0]) a h2 Q ⟨⟩ ⟨⟩:=by
 obtain ⟨hq',hrom,hb2,hX,hbook⟩:=hpre
 simp only [bodyAt,nav,Try.f46]
 have hxn:xb<h2.next:=hX.2.1
 refine loop_go (n:=192) (by kernel_rfl) (fun m' a' h'=>∃(i:Nat) (wo:List Way) (vo:Value) (n':Nat),i≤l.length∧m'=l.length - i∧PostS items Iv ic xb bk h2 vo h' n' wo∧AltS G items l q k n ow i wo n' ∧
  a'.get 0=.pointer (some ⟨xb,0,none⟩)∧a'.get 2=.int .i64 (q:Int)∧a'.get 9=vo∧a'.get 124=.slice Av l.length c∧a'.get 125=.int .i64 (l.length:Int)∧a'.get 126=.int .i64 i) ?_ l.length _ _ hn ⟨0,[],_,n,Nat.zero_le _,rfl,⟨(Ext.refl _).toS,hX,WaysAt.nil⟩,AltS.start hn2 hrun,g0,g2,g9,g124,g125,g126⟩
 rintro m' a' h' hn' ⟨i,wo,vo,n',hi,rfl,⟨hx,hX',hO'⟩,hL,e0,e2,e9,e124,e125,e126⟩
 have hrom':h'.rom=r:=ext_rom hx hrom
 have hb':h'.base≤h'.next:=ext_bn hx hb2
 by_cases hlt:i<l.length
 rotate_left
 ·have hi0:decide ((i:Int)<(l.length:Int))=false:=decide_eq_false (by omega)
  have hil:i=l.length:=by omega
  subst hil
  simp -dsimp only [go_sem,e0,e2,e9,e124,e125,e126,hi0]
  exact hq _ h' wo vo n' (by simp -dsimp only [go_sem,hn']) ⟨hx,hX',hO'⟩ hL (by simp -dsimp only [go_sem,e9])
 have hpi:l[i]? = some l[i]:=List.getElem?_eq_getElem hlt
 have hi1:decide ((i:Int)<(l.length:Int))=true:=decide_eq_true (Int.ofNat_lt.2 hlt)
 obtain ⟨Av1,c1',hcs⟩:=(hk i _ hpi).shape
 have hat':=hat i _ hpi
 have hkid:=hk i _ hpi
 rw [hcs] at hat' hkid
 have hAv:=hA (ne_nil hlt)
 subst hAv
 obtain ⟨vS,vO,vX,vB,vR⟩:=var_ok hb' (e:=52) (c0:=[.string ⟨#[]⟩,.string ⟨#[]⟩,.slice none 0 0]) (c1:=[.string l[i].d,.string l[i].t,.slice Av1 l[i].l.length c1']) rfl rfl (by simp)
 simp -dsimp only [go_sem,e0,e2,e9,e124,e125,e126,hi1,ia50 hlt,loads_ro (n:=3) hrom' hat' rfl,vS]
 generalize h'.var 52 [.string ⟨#[]⟩,.string ⟨#[]⟩,.slice none 0 0] [.string l[i].d,.string l[i].t,.slice Av1 l[i].l.length c1']=h3 at vO vX vB vR ⊢
 clear vS
 have hx3:ExtS (Only xb) h2 h3:=hx.trans vX.toS
 have hX3:=own_ext vX hX'
 have hO3:=hO'.ext vX
 have hpre3:PreS r G items Gv Iv gc ic xb bk m eb em n' q h3:=⟨hq',ext_rom hx3 hrom,vB,hX3,book_only hbook hX hx3⟩
 have hbd:n'≤500000000∧wo.length≤10000:=by
  obtain ⟨_,_,⟨h1,h2,_⟩|⟨h1,h2,h3,h4⟩⟩:=hL
  ·omega
  ·unfold capP at h3;omega
 have sub:∃v4 h4,Snd Try.prog 46 [.pointer (some ⟨xb,0,none⟩),.agg #[.string l[i].d,.string l[i].t,.slice Av1 l[i].l.length c1'],.int .i64 (q:Int)] h3 v4 h4∧∃n2 ws,PostS items Iv ic xb bk h3 v4 h4 n2 ws∧AltS G items l q k n ow (i+1) (wo++ws) n2∧ws.length≤10000:=by
  by_cases hn3:n'≤2000
  ·obtain ⟨a1,b'',q1,_,_,_⟩:=hL.split hn3 hpi
   obtain ⟨v4,h4,hs4,n2,ws,hpost,hres,_⟩:=ihp i _ hpi n' q h3 _ a1 hn3 hpre3 hkid q1
   refine ⟨v4,h4,hs4,n2,ws,hpost,hL.stepA hn2 hn3 hpi hq' q1 hres,?_⟩
   rcases hres with ⟨r1,r2,r3⟩|⟨r1,r2,r3,r4,r5⟩
   ·subst r3
    have hlen:=runW_len _ _ _ q1
    have hsl:slackW (.part l[i] q)=0:=rfl
    omega
   ·omega
  ·obtain ⟨v4,h4,hs4,hpost⟩:=ihD i _ hpi n' q h3 _ (by omega) (by unfold deadN;omega) hpre3 hkid
   exact ⟨v4,h4,hs4,_,[],hpost,hL.stepD (by omega),by simp⟩
 obtain ⟨v4,h4,hs4,n2,ws,⟨hx4,hX4,hR4⟩,hL4,hwsl⟩:=sub
 have hxbo:∀b,ownB vo b→¬Only xb b:=fun b c d=>by have:=(hO'.lt c).1;have:b=xb:=d;omega
 have hO4:WS h4 h2.next h2.nfam (OldB h2) (OldF h2) wo vo:=hO3.extS hx4 (noRow_own hX3 (by decide)) hxbo
 obtain ⟨hR4',hDR4⟩:=wsS_lift (h0:=h2) (Ext.refl h2).toS hx3 hx4 hxbo hO3 hR4
 have hx24:=hx3.trans hx4
 obtain ⟨v',h5,a5,hO5,hext5,hkp5,hoth5,_,_,_⟩:=ways_all apP mkP hO4 hR4' (ext_bn hx24 hb2) hx24.next hx24.nfam (by omega)
 have hx5:=hext5 (Only xb) h2 hx24 (Nat.le_refl _) (Nat.le_refl _)
 simp -dsimp only [go_sem,e0,e2,e9,e124,e125,e126,loads_own vO]
 refine ⟨_,h4,hs4,?_⟩
 simp -dsimp only [go_sem,e0,e2,e9,e124,e125,e126,builtin',a5,wrap64_succ hlt (Nat.le_trans hlb (by decide))]
 exact ⟨l.length - (i+1),by omega,i+1,wo++ws,v',n2,hlt,rfl,⟨hx5,hoth5 _ _ _ (by decide) hX4,hO5⟩,hL4,rfl,rfl⟩
end Go.Ev.G24
end
section
namespace Go.Ev.G24
open Go.RowKit Go.Proofs
variable {r:Ro} {G:List Rule} {items:List ByteArray} {Gv Iv:Option Addr} {gc ic xb bk m eb:Nat} {em:List Bool}
theorem ResS.up {o o9:OutW} {n n' cn cw:Nat} {ws ws9:List Way} (hn:n≤1999) (h:ResS items.length o (n+1) n' ws cn cw) (hc:o9.2.1=o.2.1+1) (ha:ws=o.1→ws9=o9.1) (hd:ws.length≤cw→okH items.length (2000 - n) ws→ws9.length≤2*(2000 - n)+1∧okH items.length (2001 - n) ws9) (hcn:cn≤capP n):ResS items.length o9 n n' ws9 (capP n) (2*(2000 - n)+1):=by
 rcases h with ⟨r1,r2,r3⟩|⟨r1,r2,r3,r4,r5⟩
 ·exact .inl ⟨by omega,by omega,ha r3⟩
 ·obtain ⟨d1,d2⟩:=hd r4 (by rw [show 2000 - n=2001 - (n+1) by omega];exact r5)
  exact .inr ⟨by omega,r2,by omega,d1,d2⟩
theorem capR_le {n:Nat} (hn:n≤1999):capR (n+1)≤capP n:=by unfold capR capP;omega
theorem capP_le {n:Nat} (hn:n≤1999):capP (n+1)≤capP n:=by unfold capP;omega
theorem capP_le2 {n:Nat} (hn:n≤1999):capP (n+1)+100000≤capP n:=by unfold capP;omega
theorem wrap_begun {n:Nat} (h:n≤deadN):IntKind.i64.wrap ((n:Int)+1)=((n+1:Nat):Int):=by
 rw [IntKind.wrap_i64]
 unfold deadN at h
 omega
set_option maxHeartbeats 4000000 in
set_option maxRecDepth 10000 in
theorem ways_dead {p:Part} {n q:Nat} {h:Hp} {cs:List Value} (hn2:2000≤n) (hnd:n≤deadN) (hpre:PreS r G items Gv Iv gc ic xb bk m eb em n q h) (hp:RoPart r p cs) :
  ∃v h1,Snd Try.prog 46 [.pointer (some ⟨xb,0,none⟩),.agg cs.toArray,.int .i64 (q:Int)] h v h1∧PostS items Iv ic xb bk h v h1 (n+1) []:=by
 obtain ⟨hq,hrom,hb,hX,hbook⟩:=hpre
 obtain ⟨Av,c,rfl⟩:=hp.shape
 refine snd_go wf Try.func46 rfl rfl (n:=192) rfl (by kernel_rfl) rfl ?_
 intro a hn hg
 have hr:Try.f46.results.toList=[.tmp 6]:=rfl
 have g0:=hg 0
 have g1:=hg 1
 have g2:=hg 2
 clear hg
 simp only [List.getElem?_cons_zero,List.getElem?_cons_succ] at g0 g1 g2
 have hP:=own_new hb 52 [.string p.d,.string p.t,.slice Av p.l.length c]
 have hx0:=Ext.new h (CObj.cells ⟨[.string p.d,.string p.t,.slice Av p.l.length c],52,0,0,false⟩)
 have hX0:=own_ext hx0 hX
 unfold sR at hX0
 have hst:=stores_own hX0 (o:=2) (vs:=[.int .i64 ((n+1:Nat):Int)]) (c1:=[.pointer (some ⟨bk,0,none⟩),.slice Iv items.length ic,.int .i64 ((n+1:Nat):Int)]) rfl rfl (by simp)
 have hX1:=own_put_same hX0 [.pointer (some ⟨bk,0,none⟩),.slice Iv items.length ic,.int .i64 ((n+1:Nat):Int)]
 have hlt:decide ((2000:Int)<((n+1:Nat):Int))=true:=decide_eq_true (by omega)
 simp -dsimp only [go_sem,g0,g1,g2,load_own hX0,wrap_begun hnd,hst,load_own hX1,hlt,hr]
 exact ⟨(hx0.toS (S:=Only xb)).put (.inr rfl) _,hX1,WaysAt.nil⟩
set_option maxHeartbeats 16000000 in
set_option maxRecDepth 10000 in
theorem ways_pos {gb go ib io k:Nat} {gcss:Nat→List Value} (R:RoRules r G Gv gc gb go gcss) (RI:RoItems r items Iv ic ib io) (hnm:∀(i:Nat) (x:Rule),G[i]? = some x→named (nms G) x.body) (hfw:∀(i:Nat) (x:Rule),G[i]? = some x→Few x.body)
  (ih:∀p,named (nms G) p→Few p→PartS r G items Gv Iv gc ic xb bk m eb em k p) (ihd:∀p,named (nms G) p→Few p→PartD r G items Gv Iv gc ic xb bk m eb em p) (ihr:RowS r G items Gv Iv gc ic xb bk m eb em k) (iha:∀p,named (nms G) p→Few p→MoreS r G items Gv Iv gc ic xb bk m eb em k p) {p:Part} (hnp:named (nms G) p) (hfp:Few p):PartS r G items Gv Iv gc ic xb bk m eb em (k+1) p:=by
 intro n q h cs o9 hn2 hpre hp hrun
 by_cases hn20:n=2000
 ·obtain ⟨v,h1,hs1,hpost⟩:=ways_dead (by omega) (by unfold deadN;omega) hpre hp
  have hpp:=runW_pos hrun
  refine ⟨v,h1,hs1,n+1,[],hpost,.inr ⟨by omega,by omega,by unfold capP;omega,by simp,fun w hw=>by simp at hw⟩,fun _ w hw=>by simp at hw⟩
 have hn19:n≤1999:=by omega
 obtain ⟨hq,hrom,hb,hX,hbook⟩:=hpre
 obtain ⟨d,t,l⟩:=p
 have hGl:(nms G).length=G.length:=by simp [nms]
 have hlb:l.length≤100000:=by
  cases hfp with
  | mk _ _ _ h1 _=>exact h1
 have hfk:∀(i:Nat) (p:Part),l[i]? = some p→Few p:=by
  cases hfp with
  | mk _ _ _ _ h1=>exact h1
 have hnk:∀(i:Nat) (p:Part),l[i]? = some p→named (nms G) p:=namedL_get hnp.2.2
 cases hp with
 | mk _ _ _ Av c b o css hc hlb2 hA hat hk hsp =>
 refine snd_go wf Try.func46 rfl rfl (n:=192) rfl (by kernel_rfl) rfl ?_
 intro a hn hg
 have hr:Try.f46.results.toList=[.tmp 6]:=rfl
 have g0:=hg 0
 have g1:=hg 1
 have g2:=hg 2
 clear hg
 simp only [List.getElem?_cons_zero,List.getElem?_cons_succ] at g0 g1 g2
 have hP:=own_new hb 52 [.string d,.string t,.slice Av l.length c]
 have hx0:=Ext.new h (CObj.cells ⟨[.string d,.string t,.slice Av l.length c],52,0,0,false⟩)
 have hX0:=own_ext hx0 hX
 unfold sR at hX0
 have hst:=stores_own hX0 (o:=2) (vs:=[.int .i64 ((n+1:Nat):Int)]) (c1:=[.pointer (some ⟨bk,0,none⟩),.slice Iv items.length ic,.int .i64 ((n+1:Nat):Int)]) rfl rfl (by simp)
 have hX1:=own_put_same hX0 [.pointer (some ⟨bk,0,none⟩),.slice Iv items.length ic,.int .i64 ((n+1:Nat):Int)]
 have hxn:h.next≠xb:=Nat.ne_of_gt hX.2.1
 have hP1:=own_put hP hxn (.cells ⟨[.pointer (some ⟨bk,0,none⟩),.slice Iv items.length ic,.int .i64 ((n+1:Nat):Int)],92,0,0,false⟩)
 have hx1:=(hx0.toS (S:=Only xb)).put (b:=xb) (.inr rfl) (.cells ⟨[.pointer (some ⟨bk,0,none⟩),.slice Iv items.length ic,.int .i64 ((n+1:Nat):Int)],92,0,0,false⟩)
 have hlt0:decide ((2000:Int)<((n+1:Nat):Int))=false:=decide_eq_false (by omega)
 simp -dsimp only [go_sem,g0,g1,g2,load_own hX0,wrap_begun (show n≤deadN by unfold deadN;omega),hst,load_own hX1,hlt0]
 generalize ((h.newH (CObj.cells ⟨[.string d,.string t,.slice Av l.length c],52,0,0,false⟩)).put xb (.cells ⟨[.pointer (some ⟨bk,0,none⟩),.slice Iv items.length ic,.int .i64 ((n+1:Nat):Int)],92,0,0,false⟩))=h2 at hX1 hP1 hx1 ⊢
 have hrom2:h2.rom=r:=ext_rom hx1 hrom
 have hb2:h2.base≤h2.next:=ext_bn hx1 hb
 have hXp:h2.own xb 92 (sR items Iv ic bk (n+1)):=hX1
 have hB2:=book_only hbook hX hx1
 have hpre2:PreS r G items Gv Iv gc ic xb bk m eb em (n+1) q h2:=⟨hq,hrom2,hb2,hXp,hB2⟩
 clear hst hX0 hx0 hP
 have hix0:l≠[]→indexAddr' Try.prog 50 (.slice Av l.length c) (.int .i64 0)=some (.pointer (some ⟨b,o,none⟩)):=by
  intro hl
  rw [hA hl]
  have:=ia50 (b:=b) (o:=o) (c:=c) (n:=l.length) (i:=0) (List.length_pos_iff.2 hl)
  simpa using this
 have lift:∀{h1:Hp} {v:Value} {n':Nat} {ws:List Way},PostS items Iv ic xb bk h2 v h1 n' ws→PostS items Iv ic xb bk h v h1 n' ws:=fun k=>⟨hx1.trans k.1,k.2.1,WS.pre hx1 k.2.2 (Nat.le_refl _) (Nat.le_refl _)⟩
 by_cases c1:d.data.toList=[105,115]
 ·have k1:decide (d.data.toList=[105,115])=true:=decide_eq_true c1
  simp -dsimp only [go_sem,g0,g1,g2,load_own hP1,k1]
  rw [runW_one c1] at hrun
  injection hrun with hrun
  subst hrun
  have c3:¬d.data.toList=[114,117,108,101]:=by rw [c1];decide
  refine Dw_text (n:=192) [[],[],[1],[1,2],[1,2,3],[1,2,3,4],[0,1,2,3,4,5],[0,1,2,3,4,5,6],[0,1,2,3,4,5,6,7],[0,1,2,3,4,5,6,7,8],[0,1,2,3,4,5,6,7,8,9],[0,1,2,3,4,5,6,7,8,9,10],[0,1,2,3,4,5,6,7,8,9,10,11],[0,1,2,3,4,5,6,7,8,9,10,11,12],[0,1,2,3,4,5,6,7,8,9,10,11,12,13],[0,1,2,3,4,5,6,7,8,9,10,11,12,13,14],[0,1,2,3,4,5,6,7,8,9,10,11],[0,1,2,3,4,5,6,7,8,9,10,11,12,13,14,15,16],[0,1,2,3,4,5,6,7,8,9,10,11,12,13,14,15,16,17],[0,1,2,3,4,5,6,7,8,9,10,11],[0,1,2,3,4,5,6,7,8,9,10,11,19],[0,1,2,3,4,5,6,7,8,9,10,11,12,13,14,15,16,17,18,19,20],[0,1,2,3,4,5,6,7,8,9,10,11,12,13,14,15,16,17,18,19,20,21],[0,1,2,3,4,5,6,7,8,9,10,11,12,13,14,15,16,17,18,19,20,21,22]] (by simp -dsimp only [go_sem,hn]) (by kernel_rfl) ?_
  have hcost:=(oneW_cost (items:=items) (w:=(some t)) (q:=q)).1
  by_cases hlt:q<items.length
  rotate_left
  ·have k0:decide ((items.length:Int)≤(q:Int))=true:=decide_eq_true (by omega)
   simp -dsimp only [go_sem,undef',g0,g1,g2,load_own hX1,load_own hP1,sameN_sliceA RI.hs,k0,hr]
   refine ⟨n+1,[],⟨hx1,hXp,WaysAt.nil⟩,.inl ⟨?_,?_,?_⟩,fun e=>absurd e c3⟩
   ·rw [hcost];omega
   ·rw [hcost]
   ·unfold oneW;rw [List.getElem?_eq_none (by omega)]
  have k0:decide ((items.length:Int)≤(q:Int))=false:=decide_eq_false (by omega)
  have hps:items[q]? = some items[q]:=List.getElem?_eq_getElem hlt
  have hIv:=RI.hA (ne_nil hlt)
  subst hIv
  have hld:h2.load ⟨ib,io+q,none⟩=some (.string items[q]):=by
   have:=load_ro hrom2 (RI.hat q _ hps) (j:=0) (v:=.string items[q]) rfl
   simpa using this
  have hw:=wrap64_succ hlt (Nat.le_trans RI.hb (by decide))
  have hrow:=own_new hb2 31 [.string ⟨#[105,116,101,109]⟩,.string items[q],.slice none 0 0]
  have hxr:=Ext.new h2 (CObj.cells ⟨[.string ⟨#[105,116,101,109]⟩,.string items[q],.slice none 0 0],31,0,0,false⟩)
  have hXr:=own_ext hxr hXp
  have K1:KidsAt _ (fun x=>OldB h x∨x=h2.next+1) (OldF h) [itemT items[q]] (.slice (some ⟨h2.next,0,none⟩) 1 1):=kids_new hrow (fun c=>c.elim (fun c=>by have:=hx1.next;have:h2.next<h.next:=c;omega) (fun c=>by omega)) (fun c=>c.1 rfl) KidsAt.nil
  have fin:testB (some t) items[q]=true→∃n' ws,PostS items (some ⟨ib,io,none⟩) ic xb bk h (.slice (some ⟨h2.next+1,0,none⟩) 1 1) ((h2.newH (CObj.cells ⟨[.string ⟨#[105,116,101,109]⟩,.string items[q],.slice none 0 0],31,0,0,false⟩)).newH (CObj.cells ⟨[.bool true,.int .i64 ((q+1:Nat):Int),.slice (some ⟨h2.next,0,none⟩) 1 1],75,0,0,false⟩)) n' ws∧ResS items.length (oneW items (some t) q) n n' ws (capP n) (2*(2000 - n)+1)∧(d.data.toList=[114,117,108,101]→∀w∈ws,∃ks,w.1=[ruleT t ks]):=by
   intro ht
   have hbr:=ext_bn (hxr.toS (S:=Only xb)) hb2
   have hW:=own_new hbr 75 [.bool true,.int .i64 ((q+1:Nat):Int),.slice (some ⟨h2.next,0,none⟩) 1 1]
   have xw:=Ext.new (h2.newH (CObj.cells ⟨[.string ⟨#[105,116,101,109]⟩,.string items[q],.slice none 0 0],31,0,0,false⟩)) (CObj.cells ⟨[.bool true,.int .i64 ((q+1:Nat):Int),.slice (some ⟨h2.next,0,none⟩) 1 1],75,0,0,false⟩)
   have hres:(oneW items (some t) q).1=[([itemT items[q]],q+1)]:=by unfold oneW;rw [hps];simp only [ht,if_true]
   have hways:=ways_new (B:=OldB h) (F:=OldF h) (n0:=h.next) (f0:=h.nfam) (ks:=[itemT items[q]]) mkP hW (by simp only [next_newH];have:=hx1.next;omega) (K1.keep (keepsE xw).any)
   refine ⟨n+1,[([itemT items[q]],q+1)],⟨hx1.trans (hxr.trans xw).toS,own_ext xw hXr,hways⟩,.inl ⟨?_,?_,hres.symm⟩,fun e=>absurd e c3⟩
   ·rw [hcost];omega
   ·rw [hcost]
  by_cases hte:items[q].data.toList=t.data.toList
  ·simp -dsimp only [go_sem,undef',g0,g1,g2,load_own hX1,load_own hP1,sameN_sliceA RI.hs,k0,k1,ia25 hlt,hld,decide_eq_true hte,hw,bs29 1 (by decide),bs93 1 (by decide),repeatN,hr]
   exact fin (decide_eq_true hte)
  ·simp -dsimp only [go_sem,undef',g0,g1,g2,load_own hX1,load_own hP1,sameN_sliceA RI.hs,k0,k1,ia25 hlt,hld,decide_eq_false hte,hr]
   refine ⟨n+1,[],⟨hx1,hXp,WaysAt.nil⟩,.inl ⟨?_,?_,?_⟩,fun e=>absurd e c3⟩
   ·rw [hcost];omega
   ·rw [hcost]
   ·have:testB (some t) items[q]=false:=decide_eq_false hte
    unfold oneW;rw [hps];simp only [this,if_false,Bool.false_eq_true]
 have k1:decide (d.data.toList=[105,115])=false:=decide_eq_false c1
 by_cases c2:d.data.toList=[97,110,121]
 ·have k2:decide (d.data.toList=[97,110,121])=true:=decide_eq_true c2
  simp -dsimp only [go_sem,g0,g1,g2,load_own hP1,k1,k2]
  rw [runW_any c2] at hrun
  injection hrun with hrun
  subst hrun
  have c3:¬d.data.toList=[114,117,108,101]:=by rw [c2];decide
  refine Dw_text (n:=192) [[],[],[1],[1,2],[1,2,3],[1,2,3,4],[0,1,2,3,4,5],[0,1,2,3,4,5,6],[0,1,2,3,4,5,6,7],[0,1,2,3,4,5,6,7,8],[0,1,2,3,4,5,6,7,8,9],[0,1,2,3,4,5,6,7,8,9,10],[0,1,2,3,4,5,6,7,8,9,10,11],[0,1,2,3,4,5,6,7,8,9,10,11,12],[0,1,2,3,4,5,6,7,8,9,10,11,12,13],[0,1,2,3,4,5,6,7,8,9,10,11,12,13,14],[0,1,2,3,4,5,6,7,8,9,10,11],[0,1,2,3,4,5,6,7,8,9,10,11,12,13,14,15,16],[0,1,2,3,4,5,6,7,8,9,10,11,12,13,14,15,16,17],[0,1,2,3,4,5,6,7,8,9,10,11],[0,1,2,3,4,5,6,7,8,9,10,11,19],[0,1,2,3,4,5,6,7,8,9,10,11,12,13,14,15,16,17,18,19,20],[0,1,2,3,4,5,6,7,8,9,10,11,12,13,14,15,16,17,18,19,20,21],[0,1,2,3,4,5,6,7,8,9,10,11,12,13,14,15,16,17,18,19,20,21,22]] (by simp -dsimp only [go_sem,hn]) (by kernel_rfl) ?_
  have hcost:=(oneW_cost (items:=items) (w:=none) (q:=q)).1
  by_cases hlt:q<items.length
  rotate_left
  ·have k0:decide ((items.length:Int)≤(q:Int))=true:=decide_eq_true (by omega)
   simp -dsimp only [go_sem,undef',g0,g1,g2,load_own hX1,load_own hP1,sameN_sliceA RI.hs,k0,hr]
   refine ⟨n+1,[],⟨hx1,hXp,WaysAt.nil⟩,.inl ⟨?_,?_,?_⟩,fun e=>absurd e c3⟩
   ·rw [hcost];omega
   ·rw [hcost]
   ·unfold oneW;rw [List.getElem?_eq_none (by omega)]
  have k0:decide ((items.length:Int)≤(q:Int))=false:=decide_eq_false (by omega)
  have hps:items[q]? = some items[q]:=List.getElem?_eq_getElem hlt
  have hIv:=RI.hA (ne_nil hlt)
  subst hIv
  have hld:h2.load ⟨ib,io+q,none⟩=some (.string items[q]):=by
   have:=load_ro hrom2 (RI.hat q _ hps) (j:=0) (v:=.string items[q]) rfl
   simpa using this
  have hw:=wrap64_succ hlt (Nat.le_trans RI.hb (by decide))
  have hrow:=own_new hb2 31 [.string ⟨#[105,116,101,109]⟩,.string items[q],.slice none 0 0]
  have hxr:=Ext.new h2 (CObj.cells ⟨[.string ⟨#[105,116,101,109]⟩,.string items[q],.slice none 0 0],31,0,0,false⟩)
  have hXr:=own_ext hxr hXp
  have K1:KidsAt _ (fun x=>OldB h x∨x=h2.next+1) (OldF h) [itemT items[q]] (.slice (some ⟨h2.next,0,none⟩) 1 1):=kids_new hrow (fun c=>c.elim (fun c=>by have:=hx1.next;have:h2.next<h.next:=c;omega) (fun c=>by omega)) (fun c=>c.1 rfl) KidsAt.nil
  have fin:testB none items[q]=true→∃n' ws,PostS items (some ⟨ib,io,none⟩) ic xb bk h (.slice (some ⟨h2.next+1,0,none⟩) 1 1) ((h2.newH (CObj.cells ⟨[.string ⟨#[105,116,101,109]⟩,.string items[q],.slice none 0 0],31,0,0,false⟩)).newH (CObj.cells ⟨[.bool true,.int .i64 ((q+1:Nat):Int),.slice (some ⟨h2.next,0,none⟩) 1 1],75,0,0,false⟩)) n' ws∧ResS items.length (oneW items none q) n n' ws (capP n) (2*(2000 - n)+1)∧(d.data.toList=[114,117,108,101]→∀w∈ws,∃ks,w.1=[ruleT t ks]):=by
   intro ht
   have hbr:=ext_bn (hxr.toS (S:=Only xb)) hb2
   have hW:=own_new hbr 75 [.bool true,.int .i64 ((q+1:Nat):Int),.slice (some ⟨h2.next,0,none⟩) 1 1]
   have xw:=Ext.new (h2.newH (CObj.cells ⟨[.string ⟨#[105,116,101,109]⟩,.string items[q],.slice none 0 0],31,0,0,false⟩)) (CObj.cells ⟨[.bool true,.int .i64 ((q+1:Nat):Int),.slice (some ⟨h2.next,0,none⟩) 1 1],75,0,0,false⟩)
   have hres:(oneW items none q).1=[([itemT items[q]],q+1)]:=by unfold oneW;rw [hps];simp only [ht,if_true]
   have hways:=ways_new (B:=OldB h) (F:=OldF h) (n0:=h.next) (f0:=h.nfam) (ks:=[itemT items[q]]) mkP hW (by simp only [next_newH];have:=hx1.next;omega) (K1.keep (keepsE xw).any)
   refine ⟨n+1,[([itemT items[q]],q+1)],⟨hx1.trans (hxr.trans xw).toS,own_ext xw hXr,hways⟩,.inl ⟨?_,?_,hres.symm⟩,fun e=>absurd e c3⟩
   ·rw [hcost];omega
   ·rw [hcost]
  simp -dsimp only [go_sem,undef',g0,g1,g2,load_own hX1,load_own hP1,sameN_sliceA RI.hs,k0,k1,k2,ia25 hlt,hld,hw,bs29 1 (by decide),bs93 1 (by decide),repeatN,hr]
  exact fin rfl
 have k2:decide (d.data.toList=[97,110,121])=false:=decide_eq_false c2
 by_cases c3:d.data.toList=[114,117,108,101]
 ·have k3:decide (d.data.toList=[114,117,108,101])=true:=decide_eq_true c3
  have hidx:idxOf (nms G) t<(nms G).length:=hnp.1 c3
  rw [hGl] at hidx
  have hgi:G[idxOf (nms G) t]? = some G[idxOf (nms G) t]:=List.getElem?_eq_getElem hidx
  have hbo:bodyOf G t=G[idxOf (nms G) t].body:=by unfold bodyOf;rw [hgi]
  rw [runW_rule c3,hbo,Option.map_eq_some_iff] at hrun
  obtain ⟨ob,hrb,rfl⟩:=hrun
  obtain ⟨Av1,c1',hcs⟩:=(R.hk _ _ hgi).shape
  have hat':=R.hat _ _ hgi
  have hkid:=R.hk _ _ hgi
  rw [hcs] at hat' hkid
  have hat2:=roAt_tail hat'
  have hGv:=R.hA (ne_nil hidx)
  subst hGv
  obtain ⟨v6,h6,hs6,n6,ws,⟨hx6,hX6,hW6⟩,hres,_⟩:=ih _ (hnm _ _ hgi) (hfw _ _ hgi) (n+1) q h2 _ ob (by omega) hpre2 hkid hrb
  obtain ⟨A6,hv6,hsp6⟩:=hW6.slice
  have hP6:=own_extS hx6 hP1 hxn
  have hwl:ws.length≤10000:=by
   rcases hres with ⟨r1,r2,r3⟩|⟨r1,r2,r3,r4,r5⟩
   ·subst r3
    have hlen:=runW_len _ _ _ hrb
    have hsl:slackW (.part G[idxOf (nms G) t].body q)=0:=rfl
    omega
   ·omega
  simp -dsimp only [go_sem,g0,g1,g2,load_own hP1,k1,k2,k3]
  refine Dw_text (n:=192) [[],[],[1],[1,2],[1,2,3],[1,2,3,4],[1,2,3,4,5],[1,2,3,4,5,6],[1,2,3,4,5,6,7],[],[9],[9,10],[9,10,11],[9,10,11,12],[9,10,11,12,13],[9,10,11,12,13,14],[],[16],[9,10,11,12,13,14,15,16,17],[1,2,3,4,5,6,7,8,9,10,11,12,13,14,15,16,17,18],[1,2,3,4,5,6,7,8,9,10,11,12,13,14,15,16,17,18,19],[1,2,3,4,5,6,7,8,9,10,11,12,13,14,15,16,17,18,19,20],[],[0,1,2,3,4,5,6,7,8,9,10,11,12,13,14,15,16,17,18,19,20,21,22],[0,1,2,3,4,5,6,7,8,9,10,11,12,13,14,15,16,17,18,19,20,21,22,23]] (by simp -dsimp only [go_sem,hn]) (by kernel_rfl) ?_
  simp -dsimp only [go_sem,g0,g1,g2,load_own hP1,load_own hX1,load_own hB2.own,(bookAt hB2).hit (by rw [hGl];exact hidx),ia22 hidx,loads_ro (n:=3) hrom2 hat2 rfl,sameN_sliceA hkid.same,sameN_sliceA R.hs]
  refine ⟨_,h6,hs6,?_⟩
  rw [hv6]
  simp -dsimp only [go_sem,sameN_sliceA hsp6]
  refine ways_map_rule (v:=v6) hb2 hx6 hX6 hP6 (Nat.le_refl _) (Nat.le_refl _) hW6 (by omega) (by simp -dsimp only [go_sem,hn]) (by simp -dsimp only [go_sem]) (by simp -dsimp only [go_sem,hv6]) (by simp -dsimp only [go_sem]) (by simp -dsimp only [go_sem]) (fun a1 h1 r_n hx7 hX7 hO7 r7 => ?_)
  rw [hv6] at r7
  simp -dsimp only [go_sem,r7,hr]
  rw [←hv6]
  refine ⟨n6,_,lift ⟨hx7,hX7,hO7⟩,hres.up hn19 rfl (fun e=>by rw [e];rfl) (fun e1 e2=>⟨by rw [List.length_map];omega,(okH_map (ruleT t) (fun l h1 h2=>few_of h1 h2) (by omega) e2).mono (by omega)⟩) (capP_le hn19),fun _ w hw => ?_⟩
  rw [List.mem_map] at hw
  obtain ⟨w0,_,rfl⟩:=hw
  exact ⟨w0.1,rfl⟩
 have k3:decide (d.data.toList=[114,117,108,101])=false:=decide_eq_false c3
 by_cases c4:d.data.toList=[115,101,113]
 ·have k4:decide (d.data.toList=[115,101,113])=true:=decide_eq_true c4
  rw [runW_sq c4,Option.map_eq_some_iff] at hrun
  obtain ⟨ob,hrb,rfl⟩:=hrun
  obtain ⟨v6,h6,hs6,n6,ws,hpost,hres⟩:=ihr l Av c b o css (n+1) q h2 ob ⟨fun p hp=>by
   obtain ⟨i,hi⟩:=List.getElem?_of_mem hp
   exact ⟨hnk i p hi,hfk i p hi⟩,hlb,hc,hsp,hA,hat,hk⟩ (by omega) hpre2 hrb
  simp -dsimp only [go_sem,g0,g1,g2,load_own hP1,k1,k2,k3,k4]
  refine ⟨_,h6,hs6,?_⟩
  simp -dsimp only [go_sem,hr]
  exact ⟨n6,ws,lift hpost,hres.up hn19 rfl (fun e=>e) (fun e1 e2=>⟨by omega,e2.mono (by omega)⟩) (capR_le hn19),fun e=>absurd e c3⟩
 have k4:decide (d.data.toList=[115,101,113])=false:=decide_eq_false c4
 by_cases c5:d.data.toList=[111,114]
 ·have k5:decide (d.data.toList=[111,114])=true:=decide_eq_true c5
  rw [runW_or c5,Option.map_eq_some_iff] at hrun
  obtain ⟨ob,hrb,rfl⟩:=hrun
  simp -dsimp only [go_sem,g0,g1,g2,load_own hP1,k1,k2,k3,k4,k5]
  refine ways_or (n:=n+1) (ow:=ob) (c:=c) (by omega) (fun i p hp=>ih p (hnk i p hp) (hfk i p hp)) (fun i p hp=>ihd p (hnk i p hp) (hfk i p hp)) hlb hA hat hk hrb (by simp -dsimp only [go_sem,hn]) hpre2 (by simp -dsimp only [go_sem,g0]) (by simp -dsimp only [go_sem,g2]) (by simp -dsimp only [go_sem]) (by simp -dsimp only [go_sem]) (by simp -dsimp only [go_sem]) (by simp -dsimp only [go_sem]) (fun a1 h1 wo vo n' r_n hpost hL r9 => ?_)
  simp -dsimp only [go_sem,r9,hr]
  refine ⟨n',wo,lift hpost,?_,fun e=>absurd e c3⟩
  rcases hL.done hlb with ⟨d1,d2,d3⟩|⟨d1,d2,d3,d4,d5⟩
  ·exact .inl ⟨by show n+(ob.2.1+1)≤2000;omega,by show n'=n+(ob.2.1+1);omega,d3⟩
  ·exact .inr ⟨by show 2000<n+(ob.2.1+1);omega,d2,Nat.le_trans d3 (capP_le2 hn19),by omega,d5.mono (by omega)⟩
 have k5:decide (d.data.toList=[111,114])=false:=decide_eq_false c5
 have one1:oneKid d→∃x,l=[x]∧named (nms G) x∧Few x∧RoPart r x (css 0)∧roAt r b o (css 0):=by
  intro ho
  have hl1:l.length=1:=hnp.2.1 ho
  match l,hl1,hnk,hfk,hk,hat with
  | [x],_,hnk,hfk,hk,hat=>exact ⟨x,rfl,hnk 0 x rfl,hfk 0 x rfl,hk 0 x rfl,by have:=hat 0 x rfl;simpa using this⟩
 by_cases c6:d.data.toList=[109,97,110,121]
 ·have k6:decide (d.data.toList=[109,97,110,121])=true:=decide_eq_true c6
  obtain ⟨x,rfl,hnx,hfx,hkx,hatx⟩:=one1 (.inl c6)
  have hAv:=hA (by simp)
  subst hAv
  rw [runW_mn c6,Option.map_eq_some_iff] at hrun
  obtain ⟨ob,hrb,rfl⟩:=hrun
  obtain ⟨Av1,c1',hcs⟩:=hkx.shape
  rw [hcs] at hkx hatx
  have hix:indexAddr' Try.prog 50 (.slice (some ⟨b,o,none⟩) 1 c) (.int .i64 0)=some (.pointer (some ⟨b,o,none⟩)):=hix0 (by simp)
  obtain ⟨v6,h6,hs6,n6,ws,⟨hx6,hX6,hW6⟩,hres⟩:=iha x hnx hfx (n+1) q h2 _ ob (by omega) hpre2 hkx hrb
  obtain ⟨A6,hv6,hsp6⟩:=hW6.slice
  have hP6:=own_extS hx6 hP1 hxn
  have hwl:ws.length≤10000:=by
   rcases hres with ⟨r1,r2,r3⟩|⟨r1,r2,r3,r4,r5⟩
   ·subst r3
    have hlen:=runW_len _ _ _ hrb
    have hsl:slackW (.again x q)=0:=rfl
    omega
   ·omega
  simp -dsimp only [go_sem,g0,g1,g2,load_own hP1,k1,k2,k3,k4,k5,k6,hix,loads_ro (n:=3) hrom2 hatx rfl]
  refine ⟨_,h6,hs6,?_⟩
  rw [hv6]
  simp -dsimp only [go_sem]
  refine ways_map_many (v:=v6) hb2 hx6 hX6 hP6 (Nat.le_refl _) (Nat.le_refl _) hW6 (by omega) (by simp -dsimp only [go_sem,hn]) (by simp -dsimp only [go_sem]) (by simp -dsimp only [go_sem,hv6]) (by simp -dsimp only [go_sem]) (by simp -dsimp only [go_sem]) (fun a1 h1 r_n hx7 hX7 hO7 r7 => ?_)
  rw [hv6] at r7
  simp -dsimp only [go_sem,r7,hr]
  rw [←hv6]
  exact ⟨n6,_,lift ⟨hx7,hX7,hO7⟩,hres.up hn19 rfl (fun e=>by rw [e];rfl) (fun e1 e2=>⟨by rw [List.length_map];omega,(okH_map manyT (fun l h1 h2=>few_of h1 h2) (by omega) e2).mono (by omega)⟩) (capR_le hn19),fun e=>absurd e c3⟩
 have k6:decide (d.data.toList=[109,97,110,121])=false:=decide_eq_false c6
 by_cases c7:d.data.toList=[111,112,116]
 ·have k7:decide (d.data.toList=[111,112,116])=true:=decide_eq_true c7
  obtain ⟨x,rfl,hnx,hfx,hkx,hatx⟩:=one1 (.inr (.inl c7))
  have hAv:=hA (by simp)
  subst hAv
  rw [runW_opt c7,Option.map_eq_some_iff] at hrun
  obtain ⟨ob,hrb,rfl⟩:=hrun
  obtain ⟨Av1,c1',hcs⟩:=hkx.shape
  rw [hcs] at hkx hatx
  have hix:indexAddr' Try.prog 50 (.slice (some ⟨b,o,none⟩) 1 c) (.int .i64 0)=some (.pointer (some ⟨b,o,none⟩)):=hix0 (by simp)
  obtain ⟨v6,h6,hs6,n6,ws,⟨hx6,hX6,hW6⟩,hres,_⟩:=ih x hnx hfx (n+1) q h2 _ ob (by omega) hpre2 hkx hrb
  have hwl:ws.length≤10000:=by
   rcases hres with ⟨r1,r2,r3⟩|⟨r1,r2,r3,r4,r5⟩
   ·subst r3
    have hlen:=runW_len _ _ _ hrb
    have hsl:slackW (.part x q)=0:=rfl
    omega
   ·omega
  have hb6:h6.base≤h6.next:=ext_bn hx6 hb2
  have hWn:=own_new hb6 75 (encP (.slice none 0 0) q)
  have xw:=Ext.new h6 (CObj.cells { c:=encP (.slice none 0 0) q,e:=75,fam:=0,base:=0,grown:=false })
  have hx17:=hx6.trans xw.toS
  obtain ⟨v',h7,a7,hO7,hext7,hkp7,hoth7,_,_,_⟩:=ways_one apP mkP (hW6.ext xw) hWn KidsAt.nil (ext_bn hx17 hb2) hx17.next hx17.nfam (by omega)
  have hx7:=hext7 (Only xb) h2 hx17 (Nat.le_refl _) (Nat.le_refl _)
  unfold encP at a7
  simp -dsimp only [go_sem,g0,g1,g2,load_own hP1,k1,k2,k3,k4,k5,k6,k7,hix,loads_ro (n:=3) hrom2 hatx rfl]
  refine ⟨_,h6,hs6,?_⟩
  simp -dsimp only [go_sem,g2,bs93 1 (by decide),repeatN,builtin',a7,hr]
  refine ⟨n6,_,lift ⟨hx7,hoth7 _ _ _ (by decide) (own_ext xw hX6),hO7⟩,hres.up hn19 rfl (fun e=>by rw [e];rfl) (fun e1 e2=>⟨?_,okH_app (e2.mono (by omega)) (okH_one hq)⟩) (capP_le hn19),fun e=>absurd e c3⟩
  rw [List.length_append]
  simp only [List.length_cons,List.length_nil]
  omega
 have k7:decide (d.data.toList=[111,112,116])=false:=decide_eq_false c7
 by_cases c8:d.data.toList=[110,111,116]
 ·have k8:decide (d.data.toList=[110,111,116])=true:=decide_eq_true c8
  obtain ⟨x,rfl,hnx,hfx,hkx,hatx⟩:=one1 (.inr (.inr c8))
  have hAv:=hA (by simp)
  subst hAv
  rw [runW_not c8,Option.map_eq_some_iff] at hrun
  obtain ⟨ob,hrb,rfl⟩:=hrun
  obtain ⟨Av1,c1',hcs⟩:=hkx.shape
  rw [hcs] at hkx hatx
  have hix:indexAddr' Try.prog 50 (.slice (some ⟨b,o,none⟩) 1 c) (.int .i64 0)=some (.pointer (some ⟨b,o,none⟩)):=hix0 (by simp)
  obtain ⟨v6,h6,hs6,n6,ws,⟨hx6,hX6,hW6⟩,hres,_⟩:=ih x hnx hfx (n+1) q h2 _ ob (by omega) hpre2 hkx hrb
  obtain ⟨A6,hv6,hsp6⟩:=hW6.slice
  subst hv6
  have hb6:h6.base≤h6.next:=ext_bn hx6 hb2
  simp -dsimp only [go_sem,g0,g1,g2,load_own hP1,k1,k2,k3,k4,k5,k6,k7,k8,hix,loads_ro (n:=3) hrom2 hatx rfl]
  refine ⟨_,h6,hs6,?_⟩
  by_cases hwz:0<ws.length
  ·have kw:decide ((0:Int)<(ws.length:Int))=true:=decide_eq_true (by omega)
   simp -dsimp only [go_sem,kw,hr]
   exact ⟨n6,[],lift ⟨hx6,hX6,WaysAt.nil⟩,hres.up hn19 rfl (fun e=>by subst e;simp only [notW,if_pos hwz]) (fun e1 e2=>⟨Nat.zero_le _,fun w hw=>by simp at hw⟩) (capP_le hn19),fun e=>absurd e c3⟩
  ·have kw:decide ((0:Int)<(ws.length:Int))=false:=decide_eq_false (by omega)
   have hW:=own_new hb6 75 [.bool true,.int .i64 (q:Int),.slice none 0 0]
   have xw:=Ext.new h6 (CObj.cells ⟨[.bool true,.int .i64 (q:Int),.slice none 0 0],75,0,0,false⟩)
   simp -dsimp only [go_sem,g2,kw,bs93 1 (by decide),repeatN,hr]
   exact ⟨n6,[([],q)],lift ⟨hx6.trans xw.toS,own_ext xw hX6,ways_new mkP hW hx6.next KidsAt.nil⟩,hres.up hn19 rfl (fun e=>by subst e;simp only [notW,if_neg hwz]) (fun e1 e2=>⟨by simp,okH_one hq⟩) (capP_le hn19),fun e=>absurd e c3⟩
 have k8:decide (d.data.toList=[110,111,116])=false:=decide_eq_false c8
 rw [runW_else c1 c2 c3 c4 c5 c6 c7 c8] at hrun
 injection hrun with hrun
 subst hrun
 have hW:=own_new hb2 75 [.bool true,.int .i64 (q:Int),.slice none 0 0]
 have xw:=Ext.new h2 (CObj.cells ⟨[.bool true,.int .i64 (q:Int),.slice none 0 0],75,0,0,false⟩)
 simp -dsimp only [go_sem,g0,g1,g2,load_own hP1,k1,k2,k3,k4,k5,k6,k7,k8,bs93 1 (by decide),repeatN,hr]
 exact ⟨n+1,[([],q)],lift ⟨xw.toS,own_ext xw hXp,ways_new mkP hW (Nat.le_refl _) KidsAt.nil⟩,.inl ⟨by show n+1≤2000;omega,rfl,rfl⟩,fun e=>absurd e c3⟩
theorem ways_all_c {gb go ib io:Nat} {gcss:Nat→List Value} (R:RoRules r G Gv gc gb go gcss) (RI:RoItems r items Iv ic ib io) (hnm:∀(i:Nat) (x:Rule),G[i]? = some x→named (nms G) x.body) (hfw:∀(i:Nat) (x:Rule),G[i]? = some x→Few x.body) :
  ∀k:Nat,(∀p,named (nms G) p→Few p→PartS r G items Gv Iv gc ic xb bk m eb em k p)∧RowS r G items Gv Iv gc ic xb bk m eb em k∧∀p,named (nms G) p→Few p→MoreS r G items Gv Iv gc ic xb bk m eb em k p:=by
 have hD:∀p,named (nms G) p→Few p→PartD r G items Gv Iv gc ic xb bk m eb em p:=fun p _ _ n q h cs h1 h2 hpre hp=>ways_dead (by omega) h2 hpre hp
 have hRD:=ways_rowD hD
 intro k
 induction k with
 | zero=>exact ⟨fun p _ _ n q h cs o _ _ _ e=>(by cases e),fun l Av c b o css n q h ow _ _ _ e=>(by cases e),fun p _ _ n q h cs o _ _ _ e=>(by cases e)⟩
 | succ k ih =>
   obtain ⟨i1,i2,i3⟩:=ih
   exact ⟨fun p h1 h2=>ways_pos R RI hnm hfw i1 hD i2 i3 h1 h2,ways_row i1 i2 hRD,fun p h1 h2=>ways_more (i1 p h1 h2) (i3 p h1 h2) (ways_moreD (hD p h1 h2))⟩
end Go.Ev.G24
end
section
namespace Go.Ev.G24
open Go.RowKit Go.Proofs
variable {r:Ro} {G:List Rule} {items:List ByteArray} {Gv Iv:Option Addr} {gc ic xb bk m eb:Nat} {em:List Bool}
def SameQ (p:Part):Prop:=∀(q:Part) (h:Hp) (cs cs1:List Value),h.base≤h.next→TreeAt h No No p cs→TreeAt h No No q cs1→∃v h1,Snd Try.prog 49 [.agg cs.toArray,.agg cs1.toArray] h v h1∧v=.bool (sameT p q)∧Ext h h1
set_option maxHeartbeats 4000000 in
set_option maxRecDepth 10000 in
theorem equal_c {l l1:List Part} {v v1:Value} {h:Hp} (ih:∀(i:Nat) (p:Part),l[i]? = some p→SameQ p) (hl:l.length≤1000000) (hb:h.base≤h.next) (K:KidsAt h No No l v) (K1:KidsAt h No No l1 v1) :
  ∃v2 h1,Snd Try.prog 76 [v,v1,.func (.func 49) #[] #[]] h v2 h1∧v2=.bool (decide (l.length=l1.length)&&sameTs l l1)∧Ext h h1:=by
 obtain ⟨Av,c,b,o,f,row,css,rfl,hc,hsp,hA,hat,hk⟩:=K
 obtain ⟨Av1,c1,b1,o1,f1,row1,css1,rfl,hc1,hsp1,hA1,hat1,hk1⟩:=K1
 refine snd_go wf Try.func76 rfl rfl (n:=32) rfl (by kernel_rfl) rfl ?_
 intro a hn hg
 have hr:Try.f76.results.toList=[.tmp 6]:=rfl
 have g0:=hg 0
 have g1:=hg 1
 have g2:=hg 2
 clear hg
 simp only [List.getElem?_cons_zero,List.getElem?_cons_succ] at g0 g1 g2
 by_cases cl:l.length=l1.length
 rotate_left
 ·have k0:decide ((l.length:Int)=(l1.length:Int))=false:=decide_eq_false (by omega)
  simp -dsimp only [go_sem,g0,g1,g2,k0,hr]
  exact ⟨by rw [decide_eq_false cl];rfl,Ext.refl _⟩
 have k0:decide ((l.length:Int)=(l1.length:Int))=true:=decide_eq_true (by omega)
 rw [decide_eq_true cl,Bool.true_and]
 simp -dsimp only [go_sem,g0,g1,g2,k0]
 refine loop_go (n:=32) (by kernel_rfl) (fun m' a' h'=>∃i:Nat,i≤l.length∧m'=l.length - i∧Ext h h'∧sameTs (l.drop i) (l1.drop i)=sameTs l l1 ∧
  a'.get 1=.slice Av1 l1.length c1∧a'.get 2=.func (.func 49) #[] #[]∧a'.get 15=.slice Av l.length c∧a'.get 16=.int .i64 (l.length:Int)∧a'.get 17=.int .i64 (i:Int)) ?_ l.length _ _ (by simp -dsimp only [go_sem,hn]) ⟨0,Nat.zero_le _,rfl,Ext.refl _,rfl,by simp -dsimp only [go_sem,g1],by simp -dsimp only [go_sem,g2],by simp -dsimp only [go_sem],by simp -dsimp only [go_sem],by simp -dsimp only [go_sem];rfl⟩
 rintro m' a' h' hn' ⟨i,hi,rfl,hx,hst,e1,e2,e15,e16,e17⟩
 have hb':h'.base≤h'.next:=by rw [hx.base];exact Nat.le_trans hb hx.next
 by_cases hlt:i<l.length
 rotate_left
 ·have hi0:decide ((i:Int)<(l.length:Int))=false:=decide_eq_false (by omega)
  rw [List.drop_eq_nil_of_le (by omega),sameTs] at hst
  ·simp -dsimp only [go_sem,e1,e2,e15,e16,e17,hi0,hr]
   exact ⟨by rw [←hst],hx⟩
  ·intro x l2 y m2 h1;cases h1
 have hpi:l[i]? = some l[i]:=List.getElem?_eq_getElem hlt
 have hlt1:i<l1.length:=by omega
 have hpi1:l1[i]? = some l1[i]:=List.getElem?_eq_getElem hlt1
 have hi1:decide ((i:Int)<(l.length:Int))=true:=decide_eq_true (Int.ofNat_lt.2 hlt)
 obtain ⟨hAv,hRow,_,_⟩:=hA (ne_nil hlt)
 obtain ⟨hAv1,hRow1,_,_⟩:=hA1 (ne_nil hlt1)
 subst hAv hAv1
 have t0:=hk i _ hpi
 have t1:=hk1 i _ hpi1
 have hat':=hat i _ hpi
 have hat1':=hat1 i _ hpi1
 obtain ⟨kv,hcs,hkv⟩:=t0.kids
 obtain ⟨kv1,hcs1,hkv1⟩:=t1.kids
 rw [hcs] at t0 hat'
 rw [hcs1] at t1 hat1'
 obtain ⟨Avk,ck,rfl,hsk⟩:=hkv.slice
 obtain ⟨Avk1,ck1,rfl,hsk1⟩:=hkv1.slice
 have ld:∀{h3:Hp},Ext h h3→h3.loads ⟨b,o+i*3,none⟩ 3=some [.string l[i].d,.string l[i].t,.slice Avk l[i].l.length ck]:=fun x=>by
  rw [row_loads ((keepsE x).rows _ _ _ hRow (fun c=>c) (fun c=>c)),hat']
 have ld1:∀{h3:Hp},Ext h h3→h3.loads ⟨b1,o1+i*3,none⟩ 3=some [.string l1[i].d,.string l1[i].t,.slice Avk1 l1[i].l.length ck1]:=fun x=>by
  rw [row_loads ((keepsE x).rows _ _ _ hRow1 (fun c=>c) (fun c=>c)),hat1']
 obtain ⟨vS,vO,vX,vB,vR⟩:=var_ok hb' (e:=31) (c0:=[.string ⟨#[]⟩,.string ⟨#[]⟩,.slice none 0 0]) (c1:=[.string l[i].d,.string l[i].t,.slice Avk l[i].l.length ck]) rfl rfl (by simp)
 simp -dsimp only [go_sem,e1,e2,e15,e16,e17,hi1,ia29 hlt,ld hx,vS]
 generalize h'.var 31 [.string ⟨#[]⟩,.string ⟨#[]⟩,.slice none 0 0] [.string l[i].d,.string l[i].t,.slice Avk l[i].l.length ck]=h3 at vO vX vB vR ⊢
 clear vS
 obtain ⟨wS,wO,wX,wB,wR⟩:=var_ok vB (e:=31) (c0:=[.string ⟨#[]⟩,.string ⟨#[]⟩,.slice none 0 0]) (c1:=[.string l1[i].d,.string l1[i].t,.slice Avk1 l1[i].l.length ck1]) rfl rfl (by simp)
 simp -dsimp only [go_sem,e1,e2,e15,e16,e17,hi1,ia29 hlt1,ld1 (hx.trans vX),wS]
 generalize h3.var 31 [.string ⟨#[]⟩,.string ⟨#[]⟩,.slice none 0 0] [.string l1[i].d,.string l1[i].t,.slice Avk1 l1[i].l.length ck1]=h4 at wO wX wB wR ⊢
 clear wS
 have hx4:=hx.trans (vX.trans wX)
 obtain ⟨_,h5,hs5,rfl,hx5⟩:=ih i _ hpi l1[i] h4 _ _ wB (t0.keep (keepsE hx4)) (t1.keep (keepsE hx4))
 rw [List.drop_eq_getElem_cons hlt,List.drop_eq_getElem_cons hlt1,sameTs] at hst
 simp -dsimp only [go_sem,e1,e2,e15,e16,e17,loads_own (own_ext wX vO),loads_own wO]
 refine ⟨_,h5,hs5,?_⟩
 simp -dsimp only [go_sem]
 cases hsm:sameT l[i] l1[i] with
 | false =>
   rw [hsm] at hst
   simp -dsimp only [go_sem,hr]
   exact ⟨by rw [←hst];rfl,hx4.trans hx5⟩
 | true =>
   rw [hsm,Bool.true_and] at hst
   simp -dsimp only [go_sem,e1,e2,e15,e16,e17,wrap64_succ hlt (by omega)]
   exact ⟨l.length - (i+1),by omega,i+1,hlt,rfl,hx4.trans hx5,hst,rfl⟩
set_option maxHeartbeats 4000000 in
set_option maxRecDepth 10000 in
theorem sameq_c:∀(n:Nat) (p:Part),SizeOf.sizeOf p<n→Few p→SameQ p:=by
 intro n
 induction n with
 | zero=>exact fun p hp=>absurd hp (Nat.not_lt_zero _)
 | succ n ihn =>
 rintro ⟨d,t,l⟩ hn hfew ⟨d1,t1,l1⟩ h cs cs1 hb hp hq
 cases hfew with
 | mk _ _ _ hl1 hfk =>
 have ih:∀(i:Nat) (p:Part),l[i]? = some p→SameQ p:=fun i p hp=>ihn p (by
  have:=List.sizeOf_lt_of_mem (List.mem_of_getElem? hp)
  simp only [Part.mk.sizeOf_spec] at hn
  omega) (hfk i p hp)
 obtain ⟨kv,rfl,hkv⟩:=hp.kids
 obtain ⟨kv1,rfl,hkv1⟩:=hq.kids
 obtain ⟨Av,c,rfl,hs⟩:=hkv.slice
 obtain ⟨Av1,c1,rfl,hs1⟩:=hkv1.slice
 have hkv:KidsAt h No No l (.slice Av l.length c):=hkv
 have hkv1:KidsAt h No No l1 (.slice Av1 l1.length c1):=hkv1
 refine snd_go wf Try.func49 rfl rfl (n:=24) rfl (by kernel_rfl) rfl ?_
 intro a hn hg
 have hr:Try.f49.results.toList=[.tmp 4]:=rfl
 have g0:=hg 0
 have g1:=hg 1
 clear hg
 simp only [List.getElem?_cons_zero,List.getElem?_cons_succ] at g0 g1
 have hP:=own_new hb 31 [.string d,.string t,.slice Av l.length c]
 have hx0:=Ext.new h (CObj.cells ⟨[.string d,.string t,.slice Av l.length c],31,0,0,false⟩)
 have hb0:=Nat.le_succ_of_le (m:=h.next) hb
 have hQ:=own_new (h:=h.newH (CObj.cells ⟨[.string d,.string t,.slice Av l.length c],31,0,0,false⟩)) hb0 31 [.string d1,.string t1,.slice Av1 l1.length c1]
 have hP1:=own_newH hP (CObj.cells ⟨[.string d1,.string t1,.slice Av1 l1.length c1],31,0,0,false⟩)
 have hx1:=hx0.trans (Ext.new _ (CObj.cells ⟨[.string d1,.string t1,.slice Av1 l1.length c1],31,0,0,false⟩))
 simp -dsimp only [go_sem,g0,g1,next_newH]
 simp only [next_newH] at hQ
 generalize (h.newH (CObj.cells ⟨[.string d,.string t,.slice Av l.length c],31,0,0,false⟩)).newH (CObj.cells ⟨[.string d1,.string t1,.slice Av1 l1.length c1],31,0,0,false⟩)=h2 at hQ hP1 hx1 ⊢
 have hb2:h2.base≤h2.next:=by rw [hx1.base];exact Nat.le_trans hb hx1.next
 by_cases cd:d.data.toList=d1.data.toList
 rotate_left
 ·simp -dsimp only [go_sem,undef',load_own hP1,load_own hQ,decide_eq_false cd,hr]
  exact ⟨by simp [sameT,cd],hx1⟩
 by_cases ct:t.data.toList=t1.data.toList
 rotate_left
 ·simp -dsimp only [go_sem,undef',load_own hP1,load_own hQ,decide_eq_true cd,decide_eq_false ct,hr]
  exact ⟨by simp [sameT,ct],hx1⟩
 obtain ⟨_,h3,hs3,rfl,hx3⟩:=equal_c ih (by omega) hb2 (hkv.keep (keepsE hx1)) (hkv1.keep (keepsE hx1))
 have e:sameT ⟨d,t,l⟩ ⟨d1,t1,l1⟩=(decide (l.length=l1.length)&&sameTs l l1):=by simp [sameT,cd,ct]
 simp -dsimp only [go_sem,undef',load_own hP1,load_own hQ,decide_eq_true cd,decide_eq_true ct]
 refine ⟨_,h3,hs3,?_⟩
 simp -dsimp only [go_sem,undef',hr]
 exact ⟨by rw [e],hx1.trans hx3⟩
end Go.Ev.G24
end
section
namespace Go.Ev.G24
open Go.RowKit Go.Proofs
variable {r:Ro} {G:List Rule} {items:List ByteArray} {Gv Iv:Option Addr} {gc ic xb bk m eb:Nat} {em:List Bool}
set_option maxHeartbeats 4000000 in
set_option maxRecDepth 10000 in
theorem asks_c {t x:Part} {h:Hp} {tcs:List Value} {ob e cx:Nat} {Ax:Option Addr} (hb:h.base≤h.next) (ho:h.own ob 75 [.bool true,.int .i64 (e:Int),.slice Ax 1 cx]) (K:KidsAt h No No [x] (.slice Ax 1 cx)) (T:TreeAt h No No t tcs) (hf:Few t) :
  ∃v h1,Snd Try.prog 48 [.agg tcs.toArray,.pointer (some ⟨ob,0,none⟩)] h v h1∧v=.bool (sameT t x)∧Ext h h1:=by
 obtain ⟨dx,tx,lx⟩:=x
 obtain ⟨kvt,rfl,hkvt⟩:=T.kids
 obtain ⟨At,ct,rfl,hst⟩:=hkvt.slice
 obtain ⟨A9,c9,b9,o9,f9,row9,css9,hveq,hc9,hs9,hA9,hat9,hk9⟩:=K
 cases hveq
 obtain ⟨rfl,hrow9,_,_⟩:=hA9 (by simp)
 have hat0:=hat9 0 ⟨dx,tx,lx⟩ rfl
 have hk0:=hk9 0 ⟨dx,tx,lx⟩ rfl
 rw [Nat.zero_mul,Nat.add_zero] at hat0
 obtain ⟨kv0,hcs0,hkv0⟩:=hk0.kids
 rw [hcs0] at hat0 hk0
 obtain ⟨A0,c0,rfl,hsp0⟩:=hkv0.slice
 have hix:indexAddr' Try.prog 29 (.slice (some ⟨b9,o9,none⟩) 1 cx) (.int .i64 0)=some (.pointer (some ⟨b9,o9,none⟩)):=by
  have:=ia29 (b:=b9) (o:=o9) (c:=cx) (n:=1) (i:=0) (by decide)
  simpa using this
 have ld:∀{h3:Hp},Ext h h3→h3.loads ⟨b9,o9,none⟩ 3=some [.string dx,.string tx,.slice A0 lx.length c0]:=fun x1=>by
  rw [row_loads ((keepsE x1).rows _ _ _ hrow9 (fun c=>c) (fun c=>c)),hat0]
 refine snd_go wf Try.func48 rfl rfl (n:=10) rfl (by kernel_rfl) rfl ?_
 intro a hn hg
 have hr:Try.f48.results.toList=[.tmp 3]:=rfl
 have g0:=hg 0
 have g1:=hg 1
 clear hg
 simp only [List.getElem?_cons_zero,List.getElem?_cons_succ] at g0 g1
 have hP:=own_new hb 31 [.string t.d,.string t.t,.slice At t.l.length ct]
 have hx0:=Ext.new h (CObj.cells ⟨[.string t.d,.string t.t,.slice At t.l.length ct],31,0,0,false⟩)
 simp -dsimp only [go_sem,g0,g1]
 generalize h.newH (CObj.cells ⟨[.string t.d,.string t.t,.slice At t.l.length ct],31,0,0,false⟩)=h2 at hP hx0 ⊢
 have hb2:h2.base≤h2.next:=by rw [hx0.base];exact Nat.le_trans hb hx0.next
 have ho2:=own_ext hx0 ho
 obtain ⟨_,h4,hs4,rfl,hx4⟩:=sameq_c (SizeOf.sizeOf t+1) t (Nat.lt_succ_self _) hf ⟨dx,tx,lx⟩ h2 _ _ hb2 (T.keep (keepsE hx0)) (hk0.keep (keepsE hx0))
 refine Dw_text (n:=10) [[],[],[1],[1,2],[1,2,3],[0,1,2,3,4],[0,1,2,3,4,5]] (by simp -dsimp only [go_sem,hn]) (by kernel_rfl) ?_
 simp -dsimp only [go_sem,g0,g1,loads_own hP,load_own ho2,hix,ld hx0,sameN_sliceA hst,sameN_sliceA hsp0,sameN_sliceA (show spotless (some ⟨b9,o9,none⟩)=true from rfl)]
 refine ⟨_,h4,hs4,?_⟩
 simp -dsimp only [go_sem,hr]
 exact hx0.trans hx4
set_option maxHeartbeats 4000000 in
set_option maxRecDepth 10000 in
theorem indexS_c {acc:List Part} {x:Part} {v:Value} {h:Hp} {ob e cx:Nat} {Ax:Option Addr} (hb:h.base≤h.next) (ho:h.own ob 75 [.bool true,.int .i64 (e:Int),.slice Ax 1 cx]) (Kx:KidsAt h No No [x] (.slice Ax 1 cx)) (K:KidsAt h No No acc v) (hf:∀p∈acc,Few p) (hl:acc.length≤1000000) :
  ∃v1 h1,Snd Try.prog 75 [v,.func (.func 48) #[] #[.pointer (some ⟨ob,0,none⟩)]] h v1 h1∧(∃z:Int,v1=.int .i64 z∧decide (0≤z)=anyS acc x)∧Ext h h1:=by
 obtain ⟨Av,c,b,o,f,row,css,rfl,hc,hsp,hA,hat,hk⟩:=K
 refine snd_go wf Try.func75 rfl rfl (n:=19) rfl (by kernel_rfl) rfl ?_
 intro a hn hg
 have hr:Try.f75.results.toList=[.tmp 4]:=rfl
 have g0:=hg 0
 have g1:=hg 1
 clear hg
 simp only [List.getElem?_cons_zero,List.getElem?_cons_succ] at g0 g1
 simp -dsimp only [go_sem,g0,g1]
 refine loop_go (n:=19) (by kernel_rfl) (fun m' a' h'=>∃i:Nat,i≤acc.length∧m'=acc.length - i∧Ext h h'∧anyS (acc.drop i) x=anyS acc x ∧
  a'.get 0=.slice Av acc.length c∧a'.get 1=.func (.func 48) #[] #[.pointer (some ⟨ob,0,none⟩)]∧a'.get 7=.int .i64 (acc.length:Int)∧a'.get 8=.int .i64 (i:Int)) ?_ acc.length _ _ (by simp -dsimp only [go_sem,hn]) ⟨0,Nat.zero_le _,rfl,Ext.refl _,rfl,by simp -dsimp only [go_sem,g0],by simp -dsimp only [go_sem,g1],by simp -dsimp only [go_sem],by simp -dsimp only [go_sem];rfl⟩
 rintro m' a' h' hn' ⟨i,hi,rfl,hx,hst,e0,e1,e7,e8⟩
 have hb':h'.base≤h'.next:=by rw [hx.base];exact Nat.le_trans hb hx.next
 unfold anyS at hst
 by_cases hlt:i<acc.length
 rotate_left
 ·have hi0:decide ((i:Int)<(acc.length:Int))=false:=decide_eq_false (by omega)
  rw [List.drop_eq_nil_of_le (by omega),List.any_nil] at hst
  simp -dsimp only [go_sem,e0,e1,e7,e8,hi0,hr]
  exact ⟨⟨-1,rfl,by unfold anyS;rw [←hst];rfl⟩,hx⟩
 have hpi:acc[i]? = some acc[i]:=List.getElem?_eq_getElem hlt
 have hi1:decide ((i:Int)<(acc.length:Int))=true:=decide_eq_true (Int.ofNat_lt.2 hlt)
 obtain ⟨hAv,hRow,_,_⟩:=hA (ne_nil hlt)
 subst hAv
 have kp:=keepsE hx
 have ld0:h'.loads ⟨b,o+i*3,none⟩ 3=some (css i):=by rw [row_loads (kp.rows _ _ _ hRow (fun c=>c) (fun c=>c)),hat i _ hpi]
 have t0:=(hk i _ hpi).keep kp
 obtain ⟨kv,hcs,hkv⟩:=t0.kids
 rw [hcs] at ld0 t0
 obtain ⟨_,h4,hs4,rfl,hx4⟩:=asks_c hb' (own_ext hx ho) (Kx.keep kp) t0 (hf _ (List.getElem_mem hlt))
 rw [List.drop_eq_getElem_cons hlt,List.any_cons] at hst
 simp -dsimp only [go_sem,e0,e1,e7,e8,hi1,ia29 hlt,ld0]
 refine ⟨_,h4,hs4,?_⟩
 simp -dsimp only [go_sem]
 cases hsm:sameT acc[i] x with
 | true =>
   rw [hsm] at hst
   simp -dsimp only [go_sem,hr]
   exact ⟨⟨_,rfl,by unfold anyS;rw [←hst];simp⟩,hx.trans hx4⟩
 | false =>
   rw [hsm,Bool.false_or] at hst
   simp -dsimp only [go_sem,e0,e1,e7,e8,wrap64_succ hlt (by omega)]
   exact ⟨acc.length - (i+1),by omega,i+1,hlt,rfl,hx.trans hx4,hst,rfl⟩
set_option maxHeartbeats 4000000 in
set_option maxRecDepth 10000 in
theorem containsS_c {acc:List Part} {x:Part} {v:Value} {h:Hp} {ob e cx:Nat} {Ax:Option Addr} (hb:h.base≤h.next) (ho:h.own ob 75 [.bool true,.int .i64 (e:Int),.slice Ax 1 cx]) (Kx:KidsAt h No No [x] (.slice Ax 1 cx)) (K:KidsAt h No No acc v) (hf:∀p∈acc,Few p) (hl:acc.length≤1000000) :
  ∃v1 h1,Snd Try.prog 47 [v,.func (.func 48) #[] #[.pointer (some ⟨ob,0,none⟩)]] h v1 h1∧v1=.bool (anyS acc x)∧Ext h h1:=by
 obtain ⟨_,h4,hs4,⟨z,rfl,hz⟩,hx4⟩:=indexS_c hb ho Kx K hf hl
 refine snd_go wf Try.func47 rfl rfl (n:=9) rfl (by kernel_rfl) rfl ?_
 intro a hn hg
 have hr:Try.f47.results.toList=[.tmp 4]:=rfl
 have g0:=hg 0
 have g1:=hg 1
 clear hg
 simp only [List.getElem?_cons_zero,List.getElem?_cons_succ] at g0 g1
 simp -dsimp only [go_sem,g0,g1]
 refine ⟨_,h4,hs4,?_⟩
 simp -dsimp only [go_sem,hz,hr]
 exact hx4
end Go.Ev.G24
end
section
namespace Go.Ev.G24
open Go.RowKit Go.Proofs
variable {r:Ro} {G:List Rule} {items:List ByteArray} {Gv Iv:Option Addr} {gc ic xb bk m eb:Nat} {em:List Bool}
set_option maxHeartbeats 8000000 in
set_option maxRecDepth 10000 in
theorem gatherP_c {h0 hs:Hp} {n0 f0:Nat} {ws:List Way} {vl x13:Value} {many:Int} (hb:hs.base≤hs.next) (hn0:h0.next≤hs.next) (hf0:h0.nfam≤hs.nfam) (hW:WS hs n0 f0 (OldB h0) (OldF h0) ws vl) (hone:∀w∈ws,∃x,w.1=[x]∧Few x) (hwl:ws.length≤500000)
  {a:Ev.A} {Q:Ex→Ev.A→Hp→Prop} (hn:a.n=70) (g2:a.get 2=.slice Iv items.length ic) (g3:a.get 3=.int .i64 many) (g13:a.get 13=x13) (g14:a.get 14=.slice none 0 0) (g32:a.get 32=vl) (g33:a.get 33=.int .i64 (ws.length:Int)) (g34:a.get 34=.int .i64 0)
  (hq:∀a1 h1 v',a1.n=70→Ext hs h1→KidsAt h1 (OldB h0) (OldF h0) (collW items.length many ws) v'→a1.get 13=x13→a1.get 14=v'→Q (.exit 0) a1 h1) :
  Th Try.prog (bodyAt Try.f23 [1,1,1,1,1,0,1,0]) a hs Q ⟨⟩ ⟨⟩:=by
 obtain ⟨Al,hvl,hspl⟩:=hW.slice
 simp only [bodyAt,nav,Try.f23]
 refine loop_go (n:=70) (by kernel_rfl) (fun m' a' h'=>∃(i:Nat) (acc:List Part) (v:Value),i≤ws.length∧m'=ws.length - i∧Ext hs h'∧acc.length≤i∧(∀p∈acc,Few p)∧(ws.drop i).foldl (collS items.length many) acc=collW items.length many ws∧KidsO h' hs.next hs.nfam (OldB h0) (OldF h0) acc v ∧
  a'.get 2=.slice Iv items.length ic∧a'.get 3=.int .i64 many∧a'.get 13=x13∧a'.get 14=v∧a'.get 32=vl∧a'.get 33=.int .i64 (ws.length:Int)∧a'.get 34=.int .i64 i) ?_ ws.length _ _ hn ⟨0,[],_,Nat.zero_le _,rfl,Ext.refl _,Nat.le_refl _,fun p hp=>by simp at hp,rfl,nil_own,g2,g3,g13,g14,g32,g33,g34⟩
 rintro m' a' h' hn' ⟨i,acc,v,hi,rfl,hx,hacc,hfew,hfold,hK,e2,e3,e13,e14,e32,e33,e34⟩
 have hb':h'.base≤h'.next:=by rw [hx.base];exact Nat.le_trans hb hx.next
 have hKat:=hK.kids (fun b c=>Nat.lt_of_lt_of_le c hn0) (fun f c=>⟨c.1,Nat.lt_of_lt_of_le c.2 hf0⟩)
 obtain ⟨Av,cv,hv,hspv⟩:=hKat.slice
 by_cases hlt:i<ws.length
 rotate_left
 ·have hi0:decide ((i:Int)<(ws.length:Int))=false:=decide_eq_false (by omega)
  rw [List.drop_eq_nil_of_le (by omega),List.foldl_nil] at hfold
  simp -dsimp only [go_sem,undef',e2,e3,e13,e14,e32,e33,e34,hi0]
  exact hq _ h' v (by simp -dsimp only [go_sem,hn']) hx (by rw [←hfold];exact hKat) (by simp -dsimp only [go_sem,e13]) (by simp -dsimp only [go_sem,e14])
 have hi1:decide ((i:Int)<(ws.length:Int))=true:=decide_eq_true (Int.ofNat_lt.2 hlt)
 obtain ⟨⟨wl,e⟩,hwi⟩:∃w,ws[i]? = some w:=⟨_,List.getElem?_eq_getElem hlt⟩
 obtain ⟨⟨dx,tx,lx⟩,hwx,hfx⟩:=hone _ (List.mem_of_getElem? hwi)
 have hwx:wl=[⟨dx,tx,lx⟩]:=hwx
 subst hwx
 obtain ⟨bh,Ah,ch,hvh,hsph,Kh,ldh⟩:=hW.getP hwi
 have ld0:h'.loads ⟨bh,i*3,none⟩ 3=some [.bool true,.int .i64 (e:Int),.slice Ah 1 ch]:=ldh (fun _=>False) h' hx.toS (fun _ _ c=>c)
 have Kx:KidsAt hs No No [⟨dx,tx,lx⟩] (.slice Ah 1 ch):=Kh.no
 obtain ⟨A9,c9,b9,o9,f9,row9,css9,hveq,hc9,hs9,hA9,hat9,hk9⟩:=Kx
 cases hveq
 obtain ⟨rfl,hrow9,_,_⟩:=hA9 (by simp)
 have hat0:=hat9 0 ⟨dx,tx,lx⟩ rfl
 have hk0:=hk9 0 ⟨dx,tx,lx⟩ rfl
 rw [Nat.zero_mul,Nat.add_zero] at hat0
 obtain ⟨kv0,hcs0,hkv0⟩:=hk0.kids
 rw [hcs0] at hat0 hk0
 obtain ⟨A0,c0,rfl,hsp0⟩:=hkv0.slice
 have hix:indexAddr' Try.prog 29 (.slice (some ⟨b9,o9,none⟩) 1 ch) (.int .i64 0)=some (.pointer (some ⟨b9,o9,none⟩)):=by
  have:=ia29 (b:=b9) (o:=o9) (c:=ch) (n:=1) (i:=0) (by decide)
  simpa using this
 have hrowk:∀h1,Ext hs h1→h1.loads ⟨b9,o9,none⟩ 3=some [.string dx,.string tx,.slice A0 lx.length c0]:=fun h1 x1=>by
  rw [row_loads ((keepsE x1).rows _ _ _ hrow9 (fun c=>c) (fun c=>c)),hat0]
 rw [List.drop_eq_getElem_cons hlt,List.foldl_cons] at hfold
 have hwe:ws[i]=([⟨dx,tx,lx⟩],e):=by
  rw [List.getElem?_eq_getElem hlt] at hwi
  injection hwi
 rw [hwe] at hfold
 obtain ⟨vS,vO,vX,vB,vR⟩:=var_ok hb' (e:=75) (c0:=[.bool false,.int .i64 0,.slice none 0 0]) (c1:=[.bool true,.int .i64 (e:Int),.slice (some ⟨b9,o9,none⟩) 1 ch]) rfl rfl (by simp)
 rw [hvh] at e32
 simp -dsimp only [go_sem,undef',e2,e3,e13,e14,e32,e33,e34,hi1,ia93 hlt,ld0,vS]
 generalize h'.var 75 [.bool false,.int .i64 0,.slice none 0 0] [.bool true,.int .i64 (e:Int),.slice (some ⟨b9,o9,none⟩) 1 ch]=h2 at vO vX vB vR ⊢
 clear vS
 have hx2:=hx.trans vX
 have hK2:=hK.ext vX
 have hKat2:=hKat.keep (keepsE vX).any
 by_cases he:e=items.length
 rotate_left
 ·have k1:decide ((e:Int)=(items.length:Int))=false:=decide_eq_false (by omega)
  have ec:collS items.length many acc ([⟨dx,tx,lx⟩],e)=acc:=by
   simp only [collS]
   rw [if_neg (fun c=>he c.1)]
  rw [ec] at hfold
  simp -dsimp only [go_sem,undef',e2,e3,e13,e14,e32,e33,e34,load_own vO,k1,wrap64_succ hlt (by omega)]
  exact ⟨ws.length - (i+1),by omega,i+1,acc,v,hlt,rfl,hx2,by omega,hfew,hfold,hK2,rfl,hvh.symm,rfl⟩
 have k1:decide ((e:Int)=(items.length:Int))=true:=decide_eq_true (by omega)
 rw [hv] at e14
 by_cases hm:(acc.length:Int)<many
 rotate_left
 ·have ec:collS items.length many acc ([⟨dx,tx,lx⟩],e)=acc:=by
   simp only [collS]
   rw [if_neg (fun c=>hm c.2.1)]
  rw [ec] at hfold
  simp -dsimp only [go_sem,undef',e2,e3,e13,e14,e32,e33,e34,load_own vO,k1,decide_eq_false hm,wrap64_succ hlt (by omega)]
  exact ⟨ws.length - (i+1),by omega,i+1,acc,v,hlt,rfl,hx2,by omega,hfew,hfold,hK2,hv.symm,hvh.symm,rfl⟩
 have Kx2:KidsAt h2 No No [⟨dx,tx,lx⟩] (.slice (some ⟨b9,o9,none⟩) 1 ch):=Kh.no.keep (keepsE hx2).any
 obtain ⟨_,h4,hs4,rfl,hx4⟩:=containsS_c vB vO Kx2 hKat2.no hfew (by omega)
 rw [hv] at hs4
 simp -dsimp only [go_sem,undef',e2,e3,e13,e14,e32,e33,e34,load_own vO,k1,decide_eq_true hm]
 refine ⟨_,h4,hs4,?_⟩
 have hxs4:=hx2.trans hx4
 cases ha:anyS acc ⟨dx,tx,lx⟩ with
 | true =>
   have ec:collS items.length many acc ([⟨dx,tx,lx⟩],e)=acc:=by
    simp only [collS]
    rw [if_neg (fun c=>by rw [ha] at c;exact absurd c.2.2 (by simp))]
   rw [ec] at hfold
   simp -dsimp only [go_sem,undef',e2,e3,e13,e14,e32,e33,e34,wrap64_succ hlt (by omega)]
   exact ⟨ws.length - (i+1),by omega,i+1,acc,v,hlt,rfl,hxs4,by omega,hfew,hfold,hK2.ext hx4,hv.symm,hvh.symm,rfl⟩
 | false =>
   have ec:collS items.length many acc ([⟨dx,tx,lx⟩],e)=acc++[⟨dx,tx,lx⟩]:=by
    simp only [collS]
    rw [if_pos ⟨he,hm,ha⟩]
   rw [ec] at hfold
   have hb4:h4.base≤h4.next:=by rw [hx4.base];exact Nat.le_trans vB hx4.next
   have vO4:=own_ext hx4 vO
   obtain ⟨_,h5,hs5,hx5,cs5,rfl,hT5⟩:=copied_c (SizeOf.sizeOf (⟨dx,tx,lx⟩:Part)+1) ⟨dx,tx,lx⟩ (Nat.lt_succ_self _) hfx h4 _ hb4 (hk0.keep (keepsE hxs4))
   obtain ⟨kv5,rfl,hkv5⟩:=hT5.kids
   obtain ⟨A5,c5,rfl,hsp5⟩:=hkv5.slice
   have hb5:h5.base≤h5.next:=by rw [hx5.base];exact Nat.le_trans hb4 hx5.next
   have hrow:=own_new hb5 31 [.string dx,.string tx,.slice A5 lx.length c5]
   have xw:=Ext.new h5 (CObj.cells ⟨[.string dx,.string tx,.slice A5 lx.length c5],31,0,0,false⟩)
   have hx46:=hx5.trans xw
   have hK6:=(hK2.ext hx4).ext hx46
   have hxs6:=hxs4.trans hx46
   have hb6:=ext_bn (xw.toS (S:=Only 0)) hb5
   have hlt6:∀b,ownB v b→b<h4.next:=fun b c=>((hK2.ext hx4).kidsLt c).2
   obtain ⟨cs1,css1,q1,q2,q3⟩:=hK6
   have hflt:∀f,ownF (h5.newH (CObj.cells ⟨[.string dx,.string tx,.slice A5 lx.length c5],31,0,0,false⟩)) v f→f≠0∧f<h4.nfam:=fun f c=>by
    obtain ⟨cs2,css2,p1,p2,p3⟩:=hK2.ext hx4
    have:=p1.flt (p1.ownF_same (S:=fun _=>False) hx46.toS (fun _ _ c=>c) c)
    exact ⟨this.1,this.2.2⟩
   have Kc:=(hkv5.more (B':=fun x=>OldB h0 x∨ownB v x) (F':=fun q=>OldF h0 q∨ownF (h5.newH (CObj.cells ⟨[.string dx,.string tx,.slice A5 lx.length c5],31,0,0,false⟩)) v q) (fun b _ c=>c.elim (fun c=>Nat.lt_of_lt_of_le c (Nat.le_trans hn0 hxs4.next)) (fun c=>hlt6 b c)) (fun f c=>.inl (c.elim (fun c=>⟨c.1,Nat.lt_of_lt_of_le c.2 (Nat.le_trans hf0 hxs4.nfam)⟩) (fun c=>hflt f c)))).keep (keepsE xw).any
   have K1:=kids_new (d:=dx) (t:=tx) hrow (fun c=>c.elim (fun c=>by have:=hx5.next;have:=hxs4.next;have:h5.next<h0.next:=c;omega) (fun c=>by have:=hlt6 _ c;have:=hx5.next;omega)) (fun c=>c.elim (fun c=>c.1 rfl) (fun c=>(q1.flt c).1 rfl)) Kc
   obtain ⟨v',h7,a7,hK7,hext7,hkp7,hoth7⟩:=trees_append ⟨cs1,css1,q1,q2,q3⟩ K1 hb6 hxs6.next hxs6.nfam (by simp only [List.length_cons,List.length_nil];omega)
   have hx7:Ext hs h7:=(hext7 (fun _=>False) hs hxs6.toS (Nat.le_refl _) (Nat.le_refl _)).ext (fun _ _ c=>c)
   have hs5':Snd Try.prog 42 [.agg #[.string dx,.string tx,.slice A0 lx.length c0]] h4 (.agg #[.string dx,.string tx,.slice A5 lx.length c5]) h5:=hs5
   rw [hv] at a7
   simp -dsimp only [go_sem,undef',e2,e3,e13,e14,e32,e33,e34,load_own vO4,hix,hrowk _ hxs4]
   refine ⟨_,h5,hs5',?_⟩
   simp -dsimp only [go_sem,undef',e2,e3,e13,e14,e32,e33,e34,bs29 1 (by decide),repeatN,builtin',a7,wrap64_succ hlt (by omega)]
   exact ⟨ws.length - (i+1),by omega,i+1,_,v',hlt,rfl,hx7,by simp only [List.length_append,List.length_cons,List.length_nil];omega,fun p hp=>(List.mem_append.1 hp).elim (hfew p) (fun c=>by simp at c;subst c;exact hfx),hfold,hK7,rfl,hvh.symm,rfl⟩
def WaysP (G:List Rule) (items:List ByteArray) (rule:ByteArray) (many:Int) (h:Hp) (v:Value) (h1:Hp):Prop:=Ext h h1 ∧
 (((rightG G=true→∃em,Found G em∧withB G em rule=false)∧v=.tuple #[.slice none 0 0,.int .i64 240]) ∨
   ((rightG G=true∧∃em,Found G em∧withB G em rule=true)∧∃k o,runW G items k (.part (ruleP rule) 0)=some o ∧
     ((o.2.1≤2000∧∃v',v=.tuple #[v',.int .i64 0]∧KidsAt h1 (OldB h) (OldF h) (collW items.length many o.1) v')∨(2000<o.2.1∧v=.tuple #[.slice none 0 0,.int .i64 4]))))
set_option maxHeartbeats 8000000 in
set_option maxRecDepth 10000 in
theorem ways_c {gb go ib io:Nat} {gcss:Nat→List Value} {many:Int} (R:RoRules r G Gv gc gb go gcss) (hft:fitsG G) (RI:RoItems r items Iv ic ib io) (hfw:∀(i:Nat) (x:Rule),G[i]? = some x→Few x.body) (rule:ByteArray)
  (hrun:rightG G=true→∀em,Found G em→withB G em rule=true→∃k o,runW G items k (.part (ruleP rule) 0)=some o) (h:Hp) (hrom:h.rom=r) (hb:h.base≤h.next) :
  ∃v h1,Snd Try.prog 23 [.agg #[.slice Gv G.length gc],.string rule,.slice Iv items.length ic,.int .i64 many] h v h1∧WaysP G items rule many h v h1:=by
 refine snd_go wf Try.func23 rfl rfl (n:=70) rfl (by kernel_rfl) rfl ?_
 intro a hn hg
 have hr:Try.f23.results.toList=[.tmp 8,.tmp 9]:=rfl
 have g0:=hg 0
 have g1:=hg 1
 have g2:=hg 2
 have g3:=hg 3
 clear hg
 simp only [List.getElem?_cons_zero,List.getElem?_cons_succ] at g0 g1 g2 g3
 have hGl:(nms G).length=G.length:=by simp [nms]
 have hG1:=own_new hb 24 [.slice Gv G.length gc]
 have hx0:=Ext.new h (CObj.cells ⟨[.slice Gv G.length gc],24,0,0,false⟩)
 simp -dsimp only [go_sem,g0,g1,g2,g3,next_newH,loads_own hG1]
 generalize (h.newH (CObj.cells ⟨[.slice Gv G.length gc],24,0,0,false⟩))=h2 at hG1 hx0 ⊢
 have hb2:h2.base≤h2.next:=by rw [hx0.base];exact Nat.le_trans hb hx0.next
 have hrom2:h2.rom=r:=hx0.rom.trans hrom
 obtain ⟨_,h3,hs3,hx3,hcase⟩:=with_c R hft rule h2 hrom2 hb2
 refine ⟨_,h3,hs3,?_⟩
 have hb3:h3.base≤h3.next:=by rw [hx3.base];exact Nat.le_trans hb2 hx3.next
 rcases hcase with ⟨rfl,hbad⟩|⟨hrg,bk,m,eb,em,rfl,l1,l2,l3,hBk,hF,hW⟩
 ·obtain ⟨vS,vO,vX,vB,vR⟩:=var_ok hb3 (e:=52) (c0:=[.string ⟨#[]⟩,.string ⟨#[]⟩,.slice none 0 0]) (c1:=[.string ⟨#[]⟩,.string ⟨#[]⟩,.slice none 0 0]) rfl rfl (by simp)
  simp -dsimp only [go_sem,vS,hr]
  exact ⟨hx0.trans (hx3.trans vX),.inl ⟨hbad,rfl⟩⟩
 obtain ⟨k9,o9,hrk⟩:=hrun hrg em hF hW
 obtain ⟨hfr,hnm⟩:=rightG_named hrg
 obtain ⟨vS,vO,vX,vB,vR⟩:=var_ok hb3 (e:=52) (c0:=[.string ⟨#[]⟩,.string ⟨#[]⟩,.slice none 0 0]) (c1:=[.string ⟨#[114,117,108,101]⟩,.string rule,.slice none 0 0]) rfl rfl (by simp)
 simp -dsimp only [go_sem,g2,vS]
 generalize h3.var 52 [.string ⟨#[]⟩,.string ⟨#[]⟩,.slice none 0 0] [.string ⟨#[114,117,108,101]⟩,.string rule,.slice none 0 0]=h4 at vO vX vB vR ⊢
 clear vS
 have hx4:=hx3.trans vX
 have hXn:=own_new vB 92 [.pointer (some ⟨bk,0,none⟩),.slice Iv items.length ic,.int .i64 ((0:Nat):Int)]
 have hx5:=Ext.new h4 (CObj.cells ⟨[.pointer (some ⟨bk,0,none⟩),.slice Iv items.length ic,.int .i64 ((0:Nat):Int)],92,0,0,false⟩)
 have hP5:=own_ext hx5 vO
 simp only [Int.natCast_zero] at hXn hx5 hP5
 generalize (h4.newH (CObj.cells ⟨[.pointer (some ⟨bk,0,none⟩),.slice Iv items.length ic,.int .i64 0],92,0,0,false⟩))=h5 at hXn hx5 hP5 ⊢
 have hx25:=hx4.trans hx5
 have hb5:h5.base≤h5.next:=by rw [hx25.base];exact Nat.le_trans hb2 hx25.next
 have hidx:idxOf (nms G) rule<(nms G).length:=by
  have:=hW
  unfold withB at this
  rw [Bool.and_eq_true] at this
  rw [hGl]
  exact of_decide_eq_true this.2
 obtain ⟨v6,h6,hs6,n6,ws,⟨hx6,hX6,hW6⟩,hres,hrule⟩:=(ways_all_c (G:=G) (items:=items) (Gv:=Gv) (Iv:=Iv) (gc:=gc) (ic:=ic) (xb:=h4.next) (bk:=bk) (m:=m) (eb:=eb) (em:=em) R RI hnm hfw k9).1 (ruleP rule) (named_ruleP hidx) (few_ruleP rule) 0 0 h5 _ o9 (by omega) ⟨Nat.zero_le _,hx25.rom.trans hrom2,hb5,hXn,(hBk.ext vX).ext hx5⟩ (ro_ruleP r rule) hrk
 have hs6':Snd Try.prog 46 [.pointer (some ⟨h4.next,0,none⟩),.agg #[.string ⟨#[114,117,108,101]⟩,.string rule,.slice none 0 0],.int .i64 0] h5 v6 h6:=hs6
 simp -dsimp only [go_sem,loads_own hP5]
 refine ⟨_,h6,hs6',?_⟩
 have hx26:Ext h2 h6:=(hx25.toS.trans hx6).ext (fun b hb hs=>by
  have:b=h4.next:=hs
  have:=hx4.next
  omega)
 have hb6:h6.base≤h6.next:=by rw [hx26.base];exact Nat.le_trans hb2 hx26.next
 unfold sR at hX6
 obtain ⟨A6,hv6,hsp6⟩:=hW6.slice
 have hwsl:ws.length≤10000∧∀w∈ws,∀p∈w.1,Few p:=by
  rcases hres with ⟨r1,r2,r3⟩|⟨r1,r2,r3,r4,r5⟩
  ·subst r3
   have hlen:=runW_len _ _ _ hrk
   have hsl:slackW (.part (ruleP rule) 0)=0:=rfl
   have hok2:=runW_ok rfl _ _ _ 0 hrk (by exact ⟨Nat.zero_le _,rfl⟩) (by omega)
   exact ⟨by omega,fun w hw=>(hok2 w hw).2.2⟩
  ·exact ⟨by omega,fun w hw=>(r5 w hw).2.2⟩
 have hone:∀w∈ws,∃x,w.1=[x]∧Few x:=fun w hw=>by
  obtain ⟨ks,hks⟩:=hrule rfl w hw
  exact ⟨_,hks,hwsl.2 w hw _ (by rw [hks];exact .head _)⟩
 rw [hv6]
 simp -dsimp only [go_sem]
 refine gatherP_c (items:=items) (Iv:=Iv) (ic:=ic) (h0:=h5) (many:=many) (x13:=.pointer (some ⟨h4.next,0,none⟩)) hb6 hx6.next hx6.nfam hW6 hone (by omega) (by simp -dsimp only [go_sem,hn]) (by simp -dsimp only [go_sem,g2]) (by simp -dsimp only [go_sem,g3]) (by simp -dsimp only [go_sem]) (by simp -dsimp only [go_sem]) (by simp -dsimp only [go_sem,hv6]) (by simp -dsimp only [go_sem]) (by simp -dsimp only [go_sem]) (fun a1 h7 v' r_n hx7 hK7 r13 r14 => ?_)
 have hX7:=own_ext hx7 hX6
 have hgood:rightG G=true∧∃em,Found G em∧withB G em rule=true:=⟨hrg,em,hF,hW⟩
 rcases hres with ⟨r1,r2,r3⟩|⟨r1,r2,r3,r4,r5⟩
 ·have kk:decide ((2000:Int)<(n6:Int))=false:=decide_eq_false (by omega)
  simp -dsimp only [go_sem,r13,r14,load_own hX7,kk,hr]
  refine ⟨hx0.trans (hx26.trans hx7),.inr ⟨hgood,k9,o9,hrk,.inl ⟨by omega,v',rfl,?_⟩⟩⟩
  rw [←r3]
  exact hK7.more (fun b _ c=>Nat.lt_of_lt_of_le c (hx0.trans hx25).next) (fun f c=>.inl ⟨c.1,Nat.lt_of_lt_of_le c.2 (hx0.trans hx25).nfam⟩)
 ·have kk:decide ((2000:Int)<(n6:Int))=true:=decide_eq_true (by omega)
  simp -dsimp only [go_sem,r13,r14,load_own hX7,kk,hr]
  exact ⟨hx0.trans (hx26.trans hx7),.inr ⟨hgood,k9,o9,hrk,.inr ⟨by omega,rfl⟩⟩⟩
end Go.Ev.G24
end
section
namespace Go.Proofs.Ytcnllhnhinmokaa
open Go.Ev Go.RowKit
theorem follows:Try.prog.follows .mixedOrders=true:=by kernel_rfl
theorem awake_run:truly Try.prog 60 12=true:=by kernel_rfl
def manystrandlaw24_awake.f:Option Bool:=some true
theorem manystrandlaw24_awake.calls (r:Bool) (w:World) (h:manystrandlaw24_awake.f=some r) :
  Calls Try.prog 12 #[] w fun e w'=>e=.returned (.bool r)∧Below w.heap.size w w':=by
 unfold manystrandlaw24_awake.f at h
 injection h with h
 subst h
 exact closed_true (wfp_of follows) awake_run w
end Go.Proofs.Ytcnllhnhinmokaa
end
section
namespace Go.Ev.G24
open Go.RowKit Go.Proofs
variable {r:Ro} {G:List Rule} {items:List ByteArray} {Gv Iv:Option Addr} {gc ic:Nat}
theorem vrs_nil {ρ:Rho} {args':List Value} (h:VRs ρ [] args'):args'=[]:=by
 cases h
 rfl
theorem awake_c (h:Hp):Snd Try.prog 12 [] h (.bool true) h :=
 snd_calls Try.func12 rfl rfl (fun _ _=>vrs_nil) (fun _=>.bool _) (fun w=>Go.Proofs.Ytcnllhnhinmokaa.manystrandlaw24_awake.calls true w rfl) h
structure RoGram (r:Ro) (l:List Rule) (Av:Option Addr) (c b o:Nat) (css:Nat→List Value):Prop where
 hc:l.length≤c
 hb:l.length≤9223372036854775807
 hA:l≠[]→Av=some ⟨b,o,none⟩
 hat:∀(i:Nat) (x:Rule),l[i]? = some x→roAt r b (o+i*4) (.string x.name::css i)
 hk:∀(i:Nat) (x:Rule),l[i]? = some x→RoPart r x.body (css i)
 hs:spotless Av=true
def zeroP:Part:=⟨⟨#[]⟩,⟨#[]⟩,[]⟩
def treeO (items:List ByteArray) (o:Outc):Part:=match o.1 with
 | none=>zeroP
 | some (ks,e)=>if e<items.length then zeroP else ks.headD zeroP
def codeO (items:List ByteArray) (o:Outc):Int:=match o.1 with
 | none=>5
 | some (_,e)=>if e<items.length then 5 else 0
theorem codeO_ne (o:Outc):codeO items o=5∨codeO items o=0:=by
 unfold codeO
 split
 ·exact .inl rfl
 ·split
  ·exact .inl rfl
  ·exact .inr rfl
theorem zero_at {h:Hp} {B F:Nat→Prop}:TreeAt h B F zeroP [.string ⟨#[]⟩,.string ⟨#[]⟩,.slice none 0 0]:=KidsAt.nil.tree
theorem few_zero:Few zeroP:=.mk _ _ _ (by simp) (fun i p e=>by simp at e)
theorem few_treeO {o:Outc} (h:∀ks e,o.1=some (ks,e)→∀p∈ks,Few p):Few (treeO items o):=by
 unfold treeO
 split
 ·exact few_zero
 ·rename_i ks e ho
  split
  ·exact few_zero
  ·cases ks with
   | nil=>exact few_zero
   | cons p ks=>exact h _ _ ho p (.head _)
theorem run_v {o:Outc} {rule:ByteArray} {h0 h1:Hp} {v:Value} (hfair:∀ks e,o.1=some (ks,e)→e≤items.length) (hv:RunV items rule o h0 h1 v) :
  ∃cs,v=.tuple #[.agg cs.toArray,.int .i64 (farV items o:Int),.int .i64 (codeO items o),.bool true]∧TreeAt h1 (fun _=>False) (fun _=>False) (treeO items o) cs:=by
 unfold RunV at hv
 cases ho:o.1 with
 | none =>
   rw [ho] at hv
   have hf:farV items o=o.2.2:=by unfold farV farO;rw [ho]
   have hc:codeO items o=5:=by unfold codeO;rw [ho]
   have ht:treeO items o=zeroP:=by unfold treeO;rw [ho]
   rw [hf,hc,ht]
   exact ⟨_,hv,zero_at⟩
 | some y =>
   obtain ⟨ks,e⟩:=y
   rw [ho] at hv
   have hv:if e<items.length then _ else _:=hv
   have he:=hfair ks e ho
   by_cases hel:e<items.length
   ·rw [if_pos hel] at hv
    have hf:farV items o=max o.2.2 e:=by unfold farV farO;rw [ho];exact if_neg (by omega)
    have hc:codeO items o=5:=by unfold codeO;rw [ho];exact if_pos hel
    have ht:treeO items o=zeroP:=by unfold treeO;rw [ho];exact if_pos hel
    rw [hf,hc,ht]
    exact ⟨_,hv,zero_at⟩
   ·rw [if_neg hel] at hv
    obtain ⟨ks1,cs,e1,e2,e3⟩:=hv
    have hf:farV items o=items.length:=by unfold farV;rw [ho];exact if_pos (by omega)
    have hc:codeO items o=0:=by unfold codeO;rw [ho];exact if_neg hel
    have ht:treeO items o=ruleT rule ks1:=by unfold treeO;rw [ho,e1];exact if_neg hel
    rw [hf,hc,ht]
    exact ⟨_,e2,e3.more (fun b _ c=>c.elim) (fun f c=>c.elim)⟩
theorem parse_v {o:Outc} {rule:ByteArray} {h1:Hp} {v:Value} (hv:ParseV items rule o h1 v) :
  ∃cs,v=.tuple #[.agg cs.toArray,.int .i64 (codeO items o)]∧TreeAt h1 (fun _=>False) (fun _=>False) (treeO items o) cs:=by
 unfold ParseV at hv
 cases ho:o.1 with
 | none =>
   rw [ho] at hv
   have hc:codeO items o=5:=by unfold codeO;rw [ho]
   have ht:treeO items o=zeroP:=by unfold treeO;rw [ho]
   rw [hc,ht]
   exact ⟨_,hv,zero_at⟩
 | some y =>
   obtain ⟨ks,e⟩:=y
   rw [ho] at hv
   have hv:if e<items.length then _ else _:=hv
   by_cases hel:e<items.length
   ·rw [if_pos hel] at hv
    have hc:codeO items o=5:=by unfold codeO;rw [ho];exact if_pos hel
    have ht:treeO items o=zeroP:=by unfold treeO;rw [ho];exact if_pos hel
    rw [hc,ht]
    exact ⟨_,hv,zero_at⟩
   ·rw [if_neg hel] at hv
    obtain ⟨ks1,cs,e1,e2,e3⟩:=hv
    have hc:codeO items o=0:=by unfold codeO;rw [ho];exact if_neg hel
    have ht:treeO items o=ruleT rule ks1:=by unfold treeO;rw [ho,e1];exact if_neg hel
    rw [hc,ht]
    exact ⟨_,e2,e3⟩
theorem tree_shape {h:Hp} {B F:Nat→Prop} {t:Part} {cs:List Value} (k:TreeAt h B F t cs):∃A c,cs=[.string t.d,.string t.t,.slice A t.l.length c]:=by
 obtain ⟨kv,e1,e2⟩:=k.kids
 obtain ⟨A,c,e3,_⟩:=e2.slice
 exact ⟨A,c,by rw [e1,e3]⟩
end Go.Ev.G24
end
section
namespace Go.Ev.G24
open Go.RowKit Go.Proofs
variable {r:Ro} {G:List Rule} {items:List ByteArray} {Gv Iv:Option Addr} {gc ic:Nat}
theorem collS_few {N:Nat} {many:Int} {acc:List Part} {w:Way} (ha:∀p∈acc,Few p) (hw:∀p∈w.1,Few p):∀p∈collS N many acc w,Few p:=by
 unfold collS
 split
 ·exact ha
 ·rename_i x l e
  split
  ·intro p hp
   rcases List.mem_append.1 hp with hp|hp
   ·exact ha p hp
   ·simp at hp
    subst hp
    exact hw _ (by rw [e];exact .head _)
  ·exact ha
theorem collF_few {N:Nat} {many:Int}:∀(ws:List Way) (acc:List Part),(∀p∈acc,Few p)→(∀w∈ws,∀p∈w.1,Few p)→∀p∈ws.foldl (collS N many) acc,Few p
 | [],acc,ha,_=>ha
 | w::ws,acc,ha,hw=>collF_few ws _ (collS_few ha (hw w (.head _))) (fun u hu=>hw u (.tail _ hu))
theorem collS_len {N:Nat} {many:Int} {acc:List Part} {w:Way}:(collS N many acc w).length≤acc.length+1:=by
 unfold collS
 split
 ·omega
 ·split
  ·simp
  ·omega
theorem collF_len {N:Nat} {many:Int}:∀(ws:List Way) (acc:List Part),(ws.foldl (collS N many) acc).length≤acc.length+ws.length
 | [],acc=>by simp
 | w::ws,acc=>by
   have h1:=collF_len (N:=N) (many:=many) ws (collS N many acc w)
   have h2:=collS_len (N:=N) (many:=many) (acc:=acc) (w:=w)
   simp only [List.foldl_cons,List.length_cons]
   omega
end Go.Ev.G24
end
section
namespace Go.Ev.G24
open Go.RowKit Go.Proofs
variable {r:Ro} {G:List Rule} {items:List ByteArray} {Gv Iv:Option Addr} {gc ic:Nat}
set_option maxHeartbeats 4000000 in
set_option maxRecDepth 10000 in
theorem nots_c {gb go:Nat} {gcss:Nat→List Value} (R:RoRules r G Gv gc gb go gcss) {h1:Hp} (hrom:h1.rom=r) (hb:h1.base≤h1.next)
  {a:Ev.A} {Q:Ex→Ev.A→Hp→Prop} (hn:a.n=134) (g79:a.get 79=.slice Gv G.length gc) (g80:a.get 80=.int .i64 (G.length:Int)) (g81:a.get 81=.int .i64 0)
  (hq:∀a1 h2,a1.n=134→Ext h1 h2→(∀x∈G,withoutB x.body=true)→(∀t,t<14→a1.get t=a.get t)→Q (.exit 0) a1 h2)
  (hq1:∀a1 h2,Ext h1 h2→a1.get 6=.bool true→Q .ret a1 h2) :
  Th Try.prog (bodyAt Try.f6 [1,1,1,1,1,1,0,1,0]) a h1 Q ⟨⟩ ⟨⟩:=by
 simp only [bodyAt,nav,Try.f6]
 refine loop_go (n:=134) (by kernel_rfl) (fun m' a' h'=>∃i:Nat,i≤G.length∧m'=G.length - i∧Ext h1 h'∧(∀t,t<14→a'.get t=a.get t)∧(∀(j:Nat) (x:Rule),j<i→G[j]? = some x→withoutB x.body=true) ∧
  a'.get 79=.slice Gv G.length gc∧a'.get 80=.int .i64 (G.length:Int)∧a'.get 81=.int .i64 (i:Int)) ?_ G.length _ _ hn ⟨0,Nat.zero_le _,rfl,Ext.refl _,fun t _=>rfl,fun j x hj=>absurd hj (Nat.not_lt_zero _),g79,g80,g81⟩
 rintro m' a' h' hn' ⟨i,hi,rfl,hx,hlow,hall,e79,e80,e81⟩
 have hrom':h'.rom=r:=hx.rom.trans hrom
 have hb':h'.base≤h'.next:=by rw [hx.base];exact Nat.le_trans hb hx.next
 by_cases hlt:i<G.length
 ·have hpi:G[i]? = some G[i]:=List.getElem?_eq_getElem hlt
  have hi1:decide ((i:Int)<(G.length:Int))=true:=decide_eq_true (Int.ofNat_lt.2 hlt)
  obtain ⟨Av1,c1',hcs⟩:=(R.hk i _ hpi).shape
  have hat':=R.hat i _ hpi
  have hkid:=R.hk i _ hpi
  rw [hcs] at hat' hkid
  have hAv:=R.hA (ne_nil hlt)
  subst hAv
  obtain ⟨vS,vO,vX,vB,vR⟩:=var_ok hb' (e:=54) (c0:=[.string ⟨#[]⟩,.string ⟨#[]⟩,.string ⟨#[]⟩,.slice none 0 0]) (c1:=[.string G[i].name,.string G[i].body.d,.string G[i].body.t,.slice Av1 G[i].body.l.length c1']) rfl rfl (by simp)
  simp -dsimp only [go_sem,e79,e80,e81,hi1,ia22 hlt,loads_ro (n:=4) hrom' hat' rfl,vS,loads_own vO]
  obtain ⟨_,h4,hs4,rfl,hx4⟩:=without_c (r:=r) _ G[i].body (Nat.lt_succ_self _) _ _ (vR.trans hrom') vB hkid
  refine ⟨_,h4,hs4,?_⟩
  cases hm:withoutB G[i].body with
  | false =>
    simp -dsimp only [go_sem,Bool.not_false]
    refine ⟨_,_,awake_c h4,?_⟩
    exact hq1 _ h4 (hx.trans (vX.trans hx4)) (by simp -dsimp only [go_sem])
  | true =>
    simp -dsimp only [go_sem,e79,e80,e81,wrap64_succ hlt (Nat.le_trans R.hb (by decide)),Bool.not_true]
    refine ⟨G.length - (i+1),by omega,i+1,hlt,rfl,hx.trans (vX.trans hx4),fun t ht => ?_,fun j x hj hx => ?_,rfl⟩
    ·have e14:t≠14:=by omega
     rw [if_neg (by omega),if_neg (by omega),if_neg (by omega),if_neg (by omega),if_neg (by omega),if_neg (by omega),if_neg (by omega),if_neg (by omega),if_neg (by omega),if_neg (by omega)]
     exact hlow t ht
    ·rcases Nat.lt_succ_iff_lt_or_eq.1 hj with h|h
     ·exact hall j x h hx
     ·subst h;rw [hpi] at hx;injection hx with hx;subst hx;exact hm
 ·have hi0:decide ((i:Int)<(G.length:Int))=false:=decide_eq_false (by omega)
  simp -dsimp only [go_sem,e79,e80,e81,hi0]
  refine hq _ h' (by simp -dsimp only [go_sem,hn']) hx (fun x hx => ?_) (fun t ht => ?_)
  ·obtain ⟨j,hj,rfl⟩:=List.mem_iff_getElem.1 hx
   exact hall j _ (by omega) (List.getElem?_eq_getElem hj)
  ·simp only [A.get_set,Option.some.injEq]
   rw [if_neg (by omega)]
   exact hlow t ht
set_option maxHeartbeats 8000000 in
set_option maxRecDepth 10000 in
theorem seek_c {l:List Part} {p:Part} {v:Value} {hs:Hp} {pb c9:Nat} {A9:Option Addr} (hb:hs.base≤hs.next) (K:KidsAt hs No No l v) (TP:TreeAt hs No No p [.string p.d,.string p.t,.slice A9 p.l.length c9]) (hP:hs.own pb 31 [.string p.d,.string p.t,.slice A9 p.l.length c9])
  (hf:∀p∈l,Few p) (hl:l.length≤1000000)
  {a:Ev.A} {Q:Ex→Ev.A→Hp→Prop} (hn:a.n=134) (g11:a.get 11=.pointer (some ⟨pb,0,none⟩)) (g18:a.get 18=v) (g19:a.get 19=.int .i64 0) (g109:a.get 109=v) (g110:a.get 110=.int .i64 (l.length:Int)) (g111:a.get 111=.int .i64 0)
  (hq:∀a1 h1,a1.n=134→Ext hs h1→anyS l p=false→a1.get 18=v→a1.get 19=.int .i64 0→Q (.exit 2) a1 h1)
  (hq1:∀a1 h1,Ext hs h1→a1.get 6=.bool true→Q .ret a1 h1) :
  Th Try.prog (bodyAt Try.f6 [1,1,1,1,1,1,1,1,1,0,1,0]) a hs Q ⟨⟩ ⟨⟩:=by
 obtain ⟨Av,c,b,o,f,row,css,rfl,hc,hsp,hA,hat,hk⟩:=K
 simp only [bodyAt,nav,Try.f6]
 refine loop_go (n:=134) (by kernel_rfl) (fun m' a' h'=>∃i:Nat,i≤l.length∧m'=l.length - i∧Ext hs h'∧anyS (l.take i) p=false ∧
  a'.get 11=.pointer (some ⟨pb,0,none⟩)∧a'.get 18=.slice Av l.length c∧a'.get 19=.int .i64 0∧a'.get 109=.slice Av l.length c∧a'.get 110=.int .i64 (l.length:Int)∧a'.get 111=.int .i64 (i:Int)) ?_ l.length _ _ hn ⟨0,Nat.zero_le _,rfl,Ext.refl _,rfl,g11,g18,g19,g109,g110,g111⟩
 rintro m' a' h' hn' ⟨i,hi,rfl,hx,hst,e11,e18,e19,e109,e110,e111⟩
 have hb':h'.base≤h'.next:=by rw [hx.base];exact Nat.le_trans hb hx.next
 by_cases hlt:i<l.length
 rotate_left
 ·have hi0:decide ((i:Int)<(l.length:Int))=false:=decide_eq_false (by omega)
  have:i=l.length:=by omega
  subst this
  rw [List.take_length] at hst
  simp -dsimp only [go_sem,e109,e110,e111,hi0]
  exact hq _ h' (by simp -dsimp only [go_sem,hn']) hx hst (by simp -dsimp only [go_sem,e18]) (by simp -dsimp only [go_sem,e19])
 have hpi:l[i]? = some l[i]:=List.getElem?_eq_getElem hlt
 have hi1:decide ((i:Int)<(l.length:Int))=true:=decide_eq_true (Int.ofNat_lt.2 hlt)
 obtain ⟨hAv,hRow,_,_⟩:=hA (ne_nil hlt)
 subst hAv
 have kp:=keepsE hx
 have ld0:h'.loads ⟨b,o+i*3,none⟩ 3=some (css i):=by rw [row_loads (kp.rows _ _ _ hRow (fun c=>c) (fun c=>c)),hat i _ hpi]
 have t0:=(hk i _ hpi).keep kp
 obtain ⟨kv,hcs,hkv⟩:=t0.kids
 rw [hcs] at ld0 t0
 obtain ⟨Avk,ck,rfl,hsk⟩:=hkv.slice
 obtain ⟨vS,vO,vX,vB,vR⟩:=var_ok hb' (e:=31) (c0:=[.string ⟨#[]⟩,.string ⟨#[]⟩,.slice none 0 0]) (c1:=[.string l[i].d,.string l[i].t,.slice Avk l[i].l.length ck]) rfl rfl (by simp)
 have hP':=own_ext (hx.trans vX) hP
 obtain ⟨_,h4,hs4,rfl,hx4⟩:=same_c (SizeOf.sizeOf l[i]+1) l[i] (Nat.lt_succ_self _) (hf _ (List.getElem_mem hlt)) p _ _ _ vB (t0.keep (keepsE vX)) (TP.keep (keepsE (hx.trans vX)))
 simp -dsimp only [go_sem,e11,e18,e19,e109,e110,e111,hi1,ia29 hlt,ld0,vS,loads_own vO,loads_own hP']
 refine ⟨_,h4,hs4,?_⟩
 cases hm:sameT l[i] p with
 | true =>
   have k0:decide ((0:Int)=0)=true:=rfl
   simp -dsimp only [go_sem,undef',e19,k0,decide_true]
   refine ⟨_,_,awake_c h4,?_⟩
   exact hq1 _ h4 (hx.trans (vX.trans hx4)) (by simp -dsimp only [go_sem])
 | false =>
   simp -dsimp only [go_sem,e11,e18,e19,e109,e110,e111,wrap64_succ hlt (by omega)]
   refine ⟨l.length - (i+1),by omega,i+1,hlt,rfl,hx.trans (vX.trans hx4),?_,rfl⟩
   unfold anyS at hst ⊢
   rw [List.take_succ_eq_append_getElem hlt,List.any_append,hst]
   simp [hm]
end Go.Ev.G24
end
section
namespace Go.Ev.G24
open Go.RowKit Go.Proofs
variable {r:Ro} {G:List Rule} {items:List ByteArray} {Gv Iv:Option Addr} {gc ic:Nat}
theorem tree_items {k:Nat} {rule:ByteArray} {o:Outc} (h:run G items k (.part (ruleP rule) 0)=some o) (hc:codeO items o=0):∃ks,o.1=some ([ruleT rule ks],items.length)∨(∃e,o.1=some ([ruleT rule ks],e)∧items.length≤e):=by
 unfold codeO at hc
 cases ho:o.1 with
 | none=>rw [ho] at hc;cases hc
 | some y =>
   obtain ⟨ks,e⟩:=y
   rw [ho] at hc
   obtain ⟨ks',rfl⟩:=run_ruleP h ks e ho
   refine ⟨ks',.inr ⟨e,rfl,?_⟩⟩
   by_cases c:e<items.length
   ·have hc:(if e<items.length then (5:Int) else 0)=0:=hc
    rw [if_pos c] at hc
    cases hc
   ·omega
set_option maxHeartbeats 16000000 in
set_option maxRecDepth 10000 in
theorem law3_c {gb go ib io:Nat} {gcss:Nat→List Value} (RG:RoGram r G Gv gc gb go gcss) (RS:RoStrs r items Iv ic ib io) (hsp:spotless Iv=true) (rule:ByteArray) (h:Hp) (hrom:h.rom=r) (hb:h.base≤h.next) :
  ∃v h1,Snd Try.prog 6 [.agg #[.slice Gv G.length gc],.string rule,.slice Iv items.length ic] h v h1∧v=.bool true:=by
 refine snd_go wf Try.func6 rfl rfl (n:=134) rfl (by kernel_rfl) rfl ?_
 intro a hn hg
 have hr:Try.f6.results.toList=[.tmp 6]:=rfl
 have g0:=hg 0
 have g1:=hg 1
 have g2:=hg 2
 clear hg
 simp only [List.getElem?_cons_zero,List.getElem?_cons_succ] at g0 g1 g2
 have hG:=own_new hb 24 [.slice Gv G.length gc]
 have hx0:=Ext.new h (CObj.cells ⟨[.slice Gv G.length gc],24,0,0,false⟩)
 simp -dsimp only [go_sem,g0,g1,g2,next_newH,loads_own hG]
 generalize (h.newH (CObj.cells ⟨[.slice Gv G.length gc],24,0,0,false⟩))=h2 at hG hx0 ⊢
 have hb2:h2.base≤h2.next:=by rw [hx0.base];exact Nat.le_trans hb hx0.next
 have hrom2:h2.rom=r:=hx0.rom.trans hrom
 obtain ⟨_,h3,hs3,rfl,hx3⟩:=small_c RG.hb RG.hA RG.hat RG.hk (c:=gc) (most:=60) (by decide) h2 hrom2 hb2
 have hs3':Snd Try.prog 10 [.agg #[.slice Gv G.length gc],.int .i64 60] h2 (.bool (smallB 60 G)) h3:=hs3
 refine ⟨_,h3,hs3',?_⟩
 have hrom3:h3.rom=r:=hx3.rom.trans hrom2
 have hb3:h3.base≤h3.next:=by rw [hx3.base];exact Nat.le_trans hb2 hx3.next
 have hG3:=own_ext hx3 hG
 cases hsm:smallB 60 G with
 | false =>
   simp -dsimp only [go_sem,undef']
   refine ⟨_,_,awake_c h3,?_⟩
   simp -dsimp only [go_sem,hr]
 | true =>
   by_cases hln:200<rule.data.toList.length
   ·have k1:decide ((200:Int)<(rule.data.toList.length:Int))=true:=decide_eq_true (by omega)
    simp -dsimp only [go_sem,undef',g1,k1]
    refine ⟨_,_,awake_c h3,?_⟩
    simp -dsimp only [go_sem,hr]
   ·have k1:decide ((200:Int)<(rule.data.toList.length:Int))=false:=decide_eq_false (by omega)
    obtain ⟨_,_,hs4,rfl,he4⟩:=short_c RS 12 h3 hrom3
    rw [he4] at hs4
    have hs4':Snd Try.prog 11 [.slice Iv items.length ic,.int .i64 12] h3 (.bool (shortB items 12)) h3:=hs4
    simp -dsimp only [go_sem,undef',g1,g2,k1]
    refine ⟨_,_,hs4',?_⟩
    cases hsh:shortB items 12 with
    | false =>
      simp -dsimp only [go_sem,undef']
      refine ⟨_,_,awake_c h3,?_⟩
      simp -dsimp only [go_sem,hr]
    | true =>
      obtain ⟨hGl,hft,hfw⟩:=small_fit (by decide) hsm
      have hil:items.length≤12:=by
       unfold shortB at hsh
       rw [Bool.and_eq_true] at hsh
       exact of_decide_eq_true hsh.1
      have R:RoRules r G Gv gc gb go gcss:=⟨RG.hc,by omega,RG.hA,RG.hat,RG.hk,RG.hs⟩
      have RI:RoItems r items Iv ic ib io:=⟨RS.hc,by omega,RS.hA,RS.hat,hsp⟩
      simp -dsimp only [go_sem,undef',g1,g2,loads_own hG3]
      obtain ⟨_,h5,hs5,hx5,hcase⟩:=refParse_c R hft RI hfw rule h3 hrom3 hb3
      refine ⟨_,h5,hs5,?_⟩
      have hrom5:h5.rom=r:=hx5.rom.trans hrom3
      have hb5:h5.base≤h5.next:=by rw [hx5.base];exact Nat.le_trans hb3 hx5.next
      have hG5:=own_ext hx5 hG3
      rcases hcase with ⟨hbad,rfl⟩|⟨hW,rfl|⟨k9,o9,hrk,hno,hV⟩⟩
      ·obtain ⟨vS,vO,vX,vB,vR⟩:=var_ok hb5 (e:=31) (c0:=[.string ⟨#[]⟩,.string ⟨#[]⟩,.slice none 0 0]) (c1:=[.string ⟨#[]⟩,.string ⟨#[]⟩,.slice none 0 0]) rfl rfl (by simp)
       have hG6:=own_ext vX hG5
       simp -dsimp only [go_sem,zeroT,vS,g1,g2,loads_own hG6]
       generalize h5.var 31 [.string ⟨#[]⟩,.string ⟨#[]⟩,.slice none 0 0] [.string ⟨#[]⟩,.string ⟨#[]⟩,.slice none 0 0]=h6 at vS vO vX vB vR hG6 ⊢
       have hnr:rightG G=true→∀em,Found G em→withB G em rule=true→∃k o,run G items k (.part (ruleP rule) 0)=some o∧o.2.1≤50000:=by
        intro e1 em e2 e3
        obtain ⟨em',e4,e5⟩:=hbad e1
        rw [e4.uniq e2] at e5
        rw [e3] at e5
        cases e5
       obtain ⟨_,h7,hs7,hx7,hc7⟩:=parse_c R hft RI hfw rule hnr h6 (vR.trans hrom5) vB
       refine ⟨_,h7,hs7,?_⟩
       have hb7:h7.base≤h7.next:=by rw [hx7.base];exact Nat.le_trans vB hx7.next
       rcases hc7 with ⟨rfl,_⟩|⟨⟨e1,em,e2,e3⟩,_⟩
       rotate_left
       ·obtain ⟨em',e4,e5⟩:=hbad e1
        rw [e4.uniq e2,e3] at e5
        cases e5
       obtain ⟨wS,wO,wX,wB,wR⟩:=var_ok hb7 (e:=31) (c0:=[.string ⟨#[]⟩,.string ⟨#[]⟩,.slice none 0 0]) (c1:=[.string ⟨#[]⟩,.string ⟨#[]⟩,.slice none 0 0]) rfl rfl (by simp)
       have k5:decide ((240:Int)=5)=false:=rfl
       have k240:decide ((240:Int)=240)=true:=rfl
       have k0:decide ((240:Int)=0)=false:=rfl
       simp -dsimp only [go_sem,undef',zeroT,wS,k5,k240,k0,decide_true,Bool.not_false]
       refine ⟨_,_,awake_c _,?_⟩
       simp -dsimp only [go_sem,undef',hr]
      ·obtain ⟨vS,vO,vX,vB,vR⟩:=var_ok hb5 (e:=31) (c0:=[.string ⟨#[]⟩,.string ⟨#[]⟩,.slice none 0 0]) (c1:=[.string ⟨#[]⟩,.string ⟨#[]⟩,.slice none 0 0]) rfl rfl (by simp)
       simp -dsimp only [go_sem,zeroT,vS]
       refine ⟨_,_,awake_c _,?_⟩
       simp -dsimp only [go_sem,hr]
      ·have hnr:rightG G=true→∀em,Found G em→withB G em rule=true→∃k o,run G items k (.part (ruleP rule) 0)=some o∧o.2.1≤50000:=fun _ _ _ _=>⟨k9,o9,hrk,by omega⟩
       obtain ⟨hrg,em9,hF9,hW9⟩:=hW
       have hf0:=run_fair _ _ _ (show placeT (.part (ruleP rule) 0)≤items.length from Nat.zero_le _) hrk
       have hfair:∀ks e,o9.1=some (ks,e)→e≤items.length:=by
        intro ks e ho
        have:=hf0
        unfold Fair at this
        rw [ho] at this
        exact this.2.1
       have hfew:Few (treeO items o9):=few_treeO (fun ks e ho=>by
        have:=hf0
        unfold Fair at this
        rw [ho] at this
        exact (this.2.2 (by simp only [accT,List.length_nil];omega) (fun p hp=>by simp [accT] at hp)).2)
       obtain ⟨cs,rfl,hT⟩:=run_v hfair hV
       obtain ⟨A1,c1,rfl⟩:=tree_shape hT
       obtain ⟨vS,vO,vX,vB,vR⟩:=var_ok hb5 (e:=31) (c0:=[.string ⟨#[]⟩,.string ⟨#[]⟩,.slice none 0 0]) (c1:=[.string (treeO items o9).d,.string (treeO items o9).t,.slice A1 (treeO items o9).l.length c1]) rfl rfl (by simp)
       have hG6:=own_ext vX hG5
       simp -dsimp only [go_sem,vS,g1,g2,loads_own hG6]
       generalize h5.var 31 [.string ⟨#[]⟩,.string ⟨#[]⟩,.slice none 0 0] [.string (treeO items o9).d,.string (treeO items o9).t,.slice A1 (treeO items o9).l.length c1]=h6 at vS vO vX vB vR hG6 ⊢
       obtain ⟨_,h7,hs7,hx7,hc7⟩:=parse_c R hft RI hfw rule hnr h6 (vR.trans hrom5) vB
       refine ⟨_,h7,hs7,?_⟩
       have hb7:h7.base≤h7.next:=by rw [hx7.base];exact Nat.le_trans vB hx7.next
       rcases hc7 with ⟨_,hbad⟩|⟨_,k7,o7,hr7,hV7⟩
       ·obtain ⟨em',e4,e5⟩:=hbad hrg
        rw [e4.uniq hF9,hW9] at e5
        cases e5
       have ho7:o7=o9:=run_det hr7 hrk
       subst ho7
       obtain ⟨cs',rfl,hT7⟩:=parse_v hV7
       obtain ⟨A2,c2,rfl⟩:=tree_shape hT7
       obtain ⟨wS,wO,wX,wB,wR⟩:=var_ok hb7 (e:=31) (c0:=[.string ⟨#[]⟩,.string ⟨#[]⟩,.slice none 0 0]) (c1:=[.string (treeO items o7).d,.string (treeO items o7).t,.slice A2 (treeO items o7).l.length c2]) rfl rfl (by simp)
       have hG8:=own_ext (hx7.trans wX) hG6
       have hU8:=hT7.keep (keepsE wX)
       have hrom8:=wR.trans (hx7.rom.trans (vR.trans hrom5))
       rcases codeO_ne (items:=items) o7 with hc|hc
       ·have k0:decide ((5:Int)=0)=false:=rfl
        have k5:decide ((5:Int)=5)=true:=rfl
        simp -dsimp only [go_sem,undef',wS,hc,k0,k5,decide_true,Bool.not_false]
        refine ⟨_,_,awake_c _,?_⟩
        simp -dsimp only [go_sem,undef',hr]
       obtain ⟨ks,hks⟩:=tree_items hrk hc
       have hks:∃e,o7.1=some ([ruleT rule ks],e)∧items.length≤e:=by
        rcases hks with e|e
        ·exact ⟨_,e,Nat.le_refl _⟩
        ·exact e
       obtain ⟨e9,ho9,hle9⟩:=hks
       have he9:e9=items.length:=Nat.le_antisymm (hfair _ _ ho9) hle9
       subst he9
       have htree:treeO items o7=ruleT rule ks:=by
        unfold treeO
        rw [ho9]
        exact if_neg (Nat.lt_irrefl _)
       have hit:tIt (treeO items o7)=items:=by
        rw [htree,←tItL_one]
        exact run_items hrk ho9 hle9
       have k0:decide ((0:Int)=0)=true:=rfl
       simp -dsimp only [go_sem,undef',wS,hc,k0,decide_true,Bool.not_true,loads_own wO]
       generalize h7.var 31 [.string ⟨#[]⟩,.string ⟨#[]⟩,.slice none 0 0] [.string (treeO items o7).d,.string (treeO items o7).t,.slice A2 (treeO items o7).l.length c2]=h8 at wS wO wX wB wR hG8 hU8 hrom8 ⊢
       have hlen8:(tIt (treeO items o7)).length≤100000:=by rw [hit];omega
       obtain ⟨va,ha,hsa,hxa,hOa⟩:=items_c _ (treeO items o7) (Nat.lt_succ_self _) hfew hlen8 h8 _ wB (hU8.more (fun b _ c=>c.elim) (fun f c=>c.elim))
       rw [hit] at hOa
       refine ⟨_,ha,hsa,?_⟩
       obtain ⟨_,_,hsb,rfl,heb⟩:=sameTexts_c ha hOa.strsAt (RS.strsAt (hxa.rom.trans hrom8)) (by omega)
       rw [heb,sameL_refl] at hsb
       simp -dsimp only [go_sem,undef',g2]
       refine ⟨_,_,hsb,?_⟩
       have hba:ha.base≤ha.next:=by rw [hxa.base];exact Nat.le_trans wB hxa.next
       obtain ⟨vc,hc',hsc,hxc,hOc⟩:=refItems_c _ (treeO items o7) (Nat.lt_succ_self _) hfew hlen8 ha _ hba ((hU8.more (fun b _ c=>c.elim) (fun f c=>c.elim)).keep (keepsE hxa))
       rw [hit] at hOc
       simp -dsimp only [go_sem,undef',Bool.not_true,loads_own (own_ext hxa wO)]
       refine ⟨_,hc',hsc,?_⟩
       have hromc:hc'.rom=r:=hxc.rom.trans (hxa.rom.trans hrom8)
       obtain ⟨_,_,hsd,rfl,hed⟩:=sameTexts_c hc' hOc.strsAt (RS.strsAt hromc) (by omega)
       rw [hed,sameL_refl] at hsd
       simp -dsimp only [go_sem,undef',g2]
       refine ⟨_,_,hsd,?_⟩
       have hxac:=hxa.trans hxc
       have hGc:=own_ext hxac hG8
       have hbc:hc'.base≤hc'.next:=by rw [hxc.base];exact Nat.le_trans hba hxc.next
       simp -dsimp only [go_sem,undef',Bool.not_true,load_own hGc]
       refine nots_c R hromc hbc (by simp -dsimp only [go_sem,hn]) (by simp -dsimp only [go_sem]) (by simp -dsimp only [go_sem]) (by simp -dsimp only [go_sem]) (fun a1 hd' hn1 hxd hnots hlow => ?_) (fun a1 hd' hxd h6' => ?_)
       rotate_left
       ·simp -dsimp only [go_sem,h6',hr]
       have l1:=hlow 1 (by decide)
       have l2:=hlow 2 (by decide)
       have l3:=hlow 3 (by decide)
       have l11:=hlow 11 (by decide)
       simp -dsimp only [go_sem,g1,g2] at l1 l2 l3 l11
       have hromd:hd'.rom=r:=hxd.rom.trans hromc
       have hbd:hd'.base≤hd'.next:=by rw [hxd.base];exact Nat.le_trans hbc hxd.next
       have hGd:=own_ext hxd hGc
       simp -dsimp only [go_sem,l1,l2,l3,loads_own hGd]
       obtain ⟨_,he,hse,hxe,hce⟩:=refWays_c (M:=2000) (many:=1000) (by decide) R hft RI hfw rule hd' hromd hbd
       have hse':Snd Try.prog 22 [.agg #[.slice Gv G.length gc],.string rule,.slice Iv items.length ic,.int .i64 1000,.int .i64 2000] hd' _ he:=hse
       refine ⟨_,he,hse',?_⟩
       have hrome:he.rom=r:=hxe.rom.trans hromd
       have hbe:he.base≤he.next:=by rw [hxe.base];exact Nat.le_trans hbd hxe.next
       have hGe:=own_ext hxe hGd
       rcases hce with ⟨hbad,_⟩|⟨_,rfl|⟨k8,o8,hr8,hno8,v8,rfl,hK8⟩⟩
       ·obtain ⟨em',e4,e5⟩:=hbad hrg
        rw [e4.uniq hF9,hW9] at e5
        cases e5
       ·simp -dsimp only [go_sem,undef',Bool.not_false]
        refine ⟨_,_,awake_c he,?_⟩
        simp -dsimp only [go_sem,undef',hr]
       simp -dsimp only [go_sem,undef',Bool.not_true,l1,l2,l3,loads_own hGe]
       obtain ⟨_,hf,hsf,hxf,hcf⟩:=ways_c (many:=1000) R hft RI hfw rule (fun _ _ _ _=>⟨k8,o8,hr8⟩) he hrome hbe
       refine ⟨_,hf,hsf,?_⟩
       rcases hcf with ⟨hbad,_⟩|⟨_,k6,o6,hr6,hcf⟩
       ·obtain ⟨em',e4,e5⟩:=hbad hrg
        rw [e4.uniq hF9,hW9] at e5
        cases e5
       have ho6:o6=o8:=runW_det hr6 hr8
       subst ho6
       rcases hcf with ⟨hle,v6,rfl,hK6⟩|⟨hgt,_⟩
       rotate_left
       ·omega
       have hlenW:=runW_len _ _ _ hr8
       have hsl:slackW (.part (ruleP rule) 0)=0:=rfl
       have hok2:=runW_ok rfl _ _ _ 0 hr8 (by exact ⟨Nat.zero_le _,rfl⟩) (by omega)
       have hfewW:∀p∈collW items.length 1000 o6.1,Few p:=collF_few o6.1 [] (fun p hp=>by simp at hp) (fun w hw=>(hok2 w hw).2.2)
       have hcl:(collW items.length 1000 o6.1).length≤0+o6.1.length:=collF_len o6.1 []
       have hbf:hf.base≤hf.next:=by rw [hxf.base];exact Nat.le_trans hbe hxf.next
       have hx8f:=hxac.trans (hxd.trans (hxe.trans hxf))
       obtain ⟨A6,c6,rfl,hsp6⟩:=hK6.slice
       have hin:anyS (collW items.length 1000 o6.1) (treeO items o7)=true∨(1000:Int)≤((collW items.length 1000 o6.1).length:Int):=by
        have hwo:withoutB (ruleP rule)=true:=by unfold ruleP withoutB withoutL;rfl
        have:=run_among hnots _ _ _ hrk hwo _ _ hr8 _ _ ho9
        rw [htree]
        exact collF_in o6.1 [] this
       simp -dsimp only [go_sem,undef']
       refine seek_c (l:=collW items.length 1000 o6.1) (p:=treeO items o7) (pb:=h7.next) hbf hK6.no ((hU8.keep (keepsE hx8f)).no) (own_ext hx8f wO) hfewW (by omega) (by simp -dsimp only [go_sem,hn1]) (by simp -dsimp only [go_sem,l11]) (by simp -dsimp only [go_sem]) (by simp -dsimp only [go_sem]) (by simp -dsimp only [go_sem]) (by simp -dsimp only [go_sem]) (by simp -dsimp only [go_sem]) (fun a2 hg hn2 hxg hno18 h18 h19 => ?_) (fun a2 hg hxg h6' => ?_)
       ·have hge:(1000:Int)≤((collW items.length 1000 o6.1).length:Int):=by
         rcases hin with e|e
         ·rw [e] at hno18;cases hno18
         ·exact e
        have kg:decide ((1000:Int)≤((collW items.length 1000 o6.1).length:Int))=true:=decide_eq_true hge
        simp -dsimp only [go_sem,undef',h18,h19,k0,kg,decide_true]
        refine ⟨_,_,awake_c hg,?_⟩
        simp -dsimp only [go_sem,undef',hr]
       ·simp -dsimp only [go_sem,h6',hr]
end Go.Ev.G24
end
section
namespace Go.Ev.G24
open Go.ChangeShapes Go.WideShapes Go.ChangeAt Go.RowKit Go.Proofs
open Go.ChangeMaps (open_string shut_string)
theorem ro_clean {w:World} {b k:Nat} {v:Value} (h:w.cell? ⟨b,k,none⟩=some v) (hv:VR (rho0 w) (cleanV v) v):(roW w).f b k=some (cleanV v):=by
 unfold roW
 simp only [h]
 rw [if_pos hv]
theorem cell_lt {w:World} {a:Addr} {v:Value} (h:w.cell? a=some v):a.spot=none∧a.block<w.heap.size:=by
 unfold World.cell? at h
 split at h
 ·rename_i c _ _ hc
  refine ⟨?_,?_⟩
  ·cases hs:a.spot with
   | none=>rfl
   | some s=>rw [hs] at h;simp at h
  ·rcases Nat.lt_or_ge a.block w.heap.size with q|q
   ·exact q
   ·rw [Array.getElem?_eq_none q] at hc;cases hc
 ·cases h
theorem addr_eta {a:Addr} (h:a.spot=none):a=⟨a.block,a.off,none⟩:=by
 cases a
 simp at h
 subst h
 rfl
theorem add_flat {a:Addr} (h:a.spot=none) (n:Nat):a.add n=⟨a.block,a.off+n,none⟩:=by
 unfold Addr.add
 split
 ·rename_i e
  subst e
  exact addr_eta h
 ·rfl
structure OkS (w:World) (A:Option Addr) (n c:Nat):Prop where
 le:n≤c
 nil:A=none→n=0∧c=0
 at':∀a,A=some a→0<c→a.spot=none∧a.block<w.heap.size
def cleanA (A:Option Addr) (c:Nat):Option Addr:=match A with
 | none=>none
 | some a=>if c=0 then some ⟨0,0,none⟩ else some a
theorem cleanV_slice (A:Option Addr) (n c:Nat):cleanV (.slice A n c)=.slice (cleanA A c) n c:=by
 cases A with
 | none=>rfl
 | some a =>
   by_cases hc:c=0<;>simp [cleanV,cleanA,hc]
theorem OkS.spotless {w:World} {A:Option Addr} {n c:Nat} (k:OkS w A n c):spotless (cleanA A c)=true:=by
 cases A with
 | none=>rfl
 | some a =>
   by_cases hc:c=0
   ·simp [cleanA,hc,Go.Ev.spotless]
   ·have:=(k.at' a rfl (by omega)).1
    simp [cleanA,hc,Go.Ev.spotless,this]
theorem OkS.vr {w:World} {A:Option Addr} {n c:Nat} (k:OkS w A n c) (hp:0<w.heap.size):VR (rho0 w) (cleanV (.slice A n c)) (.slice A n c):=by
 rw [cleanV_slice]
 cases A with
 | none =>
   obtain ⟨rfl,rfl⟩:=k.nil rfl
   exact .slNil
 | some a =>
   unfold cleanA
   by_cases hc:c=0
   ·subst hc
    have hn:n=0:=by have:=k.le;omega
    subst hn
    exact .slZero _ _ (i:=⟨0,0,0,0,true⟩) (by unfold rho0;rw [if_pos hp])
   ·have:=k.at' a rfl (by omega)
    simp only [if_neg hc]
    exact .sl (i:=⟨a.block,0,0,0,true⟩) ⟨this.1,by unfold rho0;rw [if_pos this.2],by rw [Nat.zero_add];exact addr_eta this.1⟩ (.inl rfl)
theorem choose_list {α:Type} {Q:Nat→α→Prop}:∀n,(∀i,i<n→∃y,Q i y)→∃ys:List α,ys.length=n∧∀(i:Nat) (y:α),ys[i]? = some y→Q i y
 | 0,_=>⟨[],rfl,fun i y h=>by simp at h⟩
 | n+1,h=>by
   obtain ⟨ys,h1,h2⟩:=choose_list n (fun i hi=>h i (by omega))
   obtain ⟨y,hy⟩:=h n (by omega)
   refine ⟨ys++[y],by simp [h1],fun i z hz => ?_⟩
   by_cases hi:i<ys.length
   ·rw [List.getElem?_append_left hi] at hz
    exact h2 i z hz
   ·rw [List.getElem?_append_right (by omega)] at hz
    have hin:i=n:=by
     have:=(List.getElem?_eq_some_iff.1 hz).1
     simp at this
     omega
    subst hin
    rw [h1] at hz
    simp at hz
    subst hz
    exact hy
theorem open_ro {α:Type} (K:α→List Value→Prop) {H:Type} {enc:TypeId×Value→H} {P:Program} {w:World} {base:Nat} {held:Bool} {t e:TypeId} {sz fuel:Nat} {cs:List Value} {x:DataW H×List MemPlace}
  (ht:P.underlying t=some (.slice e)) (hsz:P.cellsOf e=sz) (hpos:0<sz)
  (ih:∀n,n<fuel→∀cs x,DataW.trod enc P w base (fun _=>true) held n e cs=some x→∃y:α,K y cs)
  (h:DataW.trod enc P w base (fun _=>true) held fuel t cs=some x) :
  ∃(A:Option Addr) (c:Nat) (ys:List α) (css:Nat→List Value),cs=[.slice A ys.length c]∧OkS w A ys.length c∧ys.length≤9223372036854775807 ∧
   (∀a,A=some a→∀(i:Nat) (y:α),ys[i]? = some y→(css i).length=sz∧K y (css i)∧∀(j:Nat) (u:Value),(css i)[j]? = some u→w.cell? ⟨a.block,a.off+(i*sz+j),none⟩=some u):=by
 rcases DataW.trod_slice ht h with ⟨rfl,_⟩|⟨a,len,cap,elems,rest,n,hf,rfl,rfl,hb,hl,hm,hlen,hel,hsp,hns⟩
 ·exact ⟨none,0,[],fun _=>[],rfl,⟨Nat.le_refl _,fun _=>⟨rfl,rfl⟩,fun a e=>by cases e⟩,by simp,fun a e=>by cases e⟩
 ·obtain ⟨hrl,hrest⟩:=hsp rfl
  have first:0<cap→a.spot=none∧a.block<w.heap.size:=by
   intro hc
   have zero:∀{y:DataW H×List MemPlace},(w.cells? base a (P.cellsOf e)).bind (DataW.trod enc P w base (fun _=>true) held n e)=some y→a.spot=none∧a.block<w.heap.size:=by
    intro y hy
    obtain ⟨c,h1,h2⟩:=Option.bind_eq_some_iff.1 hy
    obtain ⟨_,hcl,hcc⟩:=World.cells?_some h1
    have:=hcc 0 (by rw [hsz];exact hpos)
    have hc0:0<c.length:=by rw [hcl,hsz];exact hpos
    rw [List.getElem?_eq_getElem hc0] at this
    have ha:a.add 0=a:=rfl
    rw [ha] at this
    exact cell_lt this
   by_cases hl0:0<len
   ·have:=hel 0 hl0
    have hi':0<elems.length:=by omega
    rw [List.getElem?_eq_getElem hi',Nat.zero_mul] at this
    exact zero this
   ·have:=hrest 0 (by omega)
    have hi':0<rest.length:=by omega
    rw [List.getElem?_eq_getElem hi',show (len+0)*P.cellsOf e=0 by rw [show len=0 by omega];simp] at this
    exact zero this
  have each:∀i,i<len→∃yc:α×List Value,yc.2.length=sz∧K yc.1 yc.2∧∀(j:Nat) (u:Value),yc.2[j]? = some u→w.cell? ⟨a.block,a.off+(i*sz+j),none⟩=some u:=by
   intro i hi
   have hi':i<elems.length:=by omega
   have:=hel i hi
   rw [List.getElem?_eq_getElem hi',hsz] at this
   obtain ⟨c,h1,h2⟩:=Option.bind_eq_some_iff.1 this
   obtain ⟨y,hy⟩:=ih n (by omega) c _ h2
   obtain ⟨_,hcl,hc⟩:=World.cells?_some h1
   refine ⟨(y,c),hcl,hy,fun j u hj => ?_⟩
   have hlt:j<c.length:=(List.getElem?_eq_some_iff.1 hj).1
   have hs:=(first (by omega)).1
   have h3:=hc j (by omega)
   rw [add_flat hs,add_flat (a:=⟨a.block,a.off+i*sz,none⟩) rfl,hj] at h3
   rw [←Nat.add_assoc]
   exact h3
  obtain ⟨ys,h1,h2⟩:=choose_list len each
  have hml:(ys.map (·.1)).length=len:=by rw [List.length_map,h1]
  refine ⟨some a,cap,ys.map (·.1),fun i=>match ys[i]? with
   | some y=>y.2
   | none=>[],by rw [hml],⟨by rw [hml];exact hl,fun e=>(by cases e),fun a' e hc=>by injection e with e;subst e;exact first hc⟩,?_,fun a' e i y hy => ?_⟩
  ·rw [hml];unfold maxLen at hm;omega
  ·injection e with e
   subst e
   rw [List.getElem?_map] at hy
   cases hyi:ys[i]? with
   | none=>rw [hyi] at hy;cases hy
   | some yc =>
     rw [hyi] at hy
     simp at hy
     subst hy
     simp only [hyi]
     exact h2 i yc hyi
theorem three {cs:List Value} {a b c:Value} (hl:cs.length=3) (h0:(cs.drop 0).take 1=[a]) (h1:(cs.drop 1).take 1=[b]) (h2:(cs.drop 2).take 1=[c]):cs=[a,b,c]:=by
 match cs,hl with
 | [x,y,z],_=>simp at h0 h1 h2;simp [h0,h1,h2]
theorem c9:Try.prog.cellsOf 9=1:=by kernel_rfl
theorem c50:Try.prog.cellsOf 50=1:=by kernel_rfl
theorem c52:Try.prog.cellsOf 52=3:=by kernel_rfl
theorem c54:Try.prog.cellsOf 54=4:=by kernel_rfl
theorem c22:Try.prog.cellsOf 22=1:=by kernel_rfl
theorem c24:Try.prog.cellsOf 24=1:=by kernel_rfl
def KPart (w:World) (y:Part) (cs:List Value):Prop:=∃(A:Option Addr) (c:Nat),cs=[.string y.d,.string y.t,.slice A y.l.length c]∧OkS w A y.l.length c∧(0<w.heap.size→RoPart (roW w) y [.string y.d,.string y.t,.slice (cleanA A c) y.l.length c])
theorem KPart.cells {w:World} {y:Part} {cs:List Value} (k:KPart w y cs) (hp:0<w.heap.size):RoPart (roW w) y (cs.map cleanV)∧∀u∈cs,VR (rho0 w) (cleanV u) u:=by
 obtain ⟨A,c,rfl,h1,h2⟩:=k
 refine ⟨by simp only [List.map_cons,List.map_nil,cleanV_slice];exact h2 hp,fun u hu => ?_⟩
 simp only [List.mem_cons,List.not_mem_nil,or_false] at hu
 rcases hu with rfl|rfl|rfl
 ·exact .string _
 ·exact .string _
 ·exact h1.vr hp
theorem ro_cells {w:World} {b o:Nat} {cc:List Value} (hb:b<w.heap.size) (h:∀(j:Nat) (u:Value),cc[j]? = some u→w.cell? ⟨b,o+j,none⟩=some u) (hv:∀u∈cc,VR (rho0 w) (cleanV u) u):roAt (roW w) b o (cc.map cleanV):=by
 refine ⟨hb,fun j v hj => ?_⟩
 rw [List.getElem?_map] at hj
 cases hc:cc[j]? with
 | none=>rw [hc] at hj;cases hj
 | some u =>
   rw [hc] at hj
   simp at hj
   subst hj
   exact ro_clean (h j u hc) (hv u (List.mem_of_getElem? hc))
theorem open_part {H:Type} {enc:TypeId×Value→H} {w:World} {base:Nat} {held:Bool}:∀(fuel:Nat) (cs:List Value) (x:DataW H×List MemPlace),
  DataW.trod enc Try.prog w base (fun _=>true) held fuel 52 cs=some x→∃y:Part,KPart w y cs:=by
 intro fuel
 induction fuel using Nat.strongRecOn with
 | _ fuel ih =>
   intro cs x h
   obtain ⟨xs,n,hf,rfl,hlen,hxl,hfs⟩:=DataW.trod_struct Try.underlying52 h
   rw [c52] at hlen
   match xs,hxl with
   | [y0,y1,y2],_ =>
     have g0:=hfs 0 { name := "Do",type:=9,offset:=0,embedded:=false,tag := "",pkgPath := "",byteOffset:=0 } rfl
     have g1:=hfs 1 { name := "Text",type:=9,offset:=1,embedded:=false,tag := "",pkgPath := "",byteOffset:=16 } rfl
     have g2:=hfs 2 { name := "Kids",type:=50,offset:=2,embedded:=false,tag := "",pkgPath := "",byteOffset:=32 } rfl
     simp only [c9,c50] at g0 g1 g2
     obtain ⟨s0,e0,_,_⟩:=DataW.trod_string Try.underlying9 g0
     obtain ⟨s1,e1,_,_⟩:=DataW.trod_string Try.underlying9 g1
     obtain ⟨A,c,ys,css,e2,hok,hmx,hcell⟩:=open_ro (KPart w) Try.underlying50 c52 (by decide) (fun m hm cs x hx=>ih m (by omega) cs x hx) g2
     have:=three hlen e0 e1 e2
     subst this
     refine ⟨⟨s0,s1,ys⟩,A,c,rfl,hok,fun hp => ?_⟩
     cases A with
     | none =>
       obtain ⟨h1,rfl⟩:=hok.nil rfl
       have h1:ys=[]:=List.length_eq_zero_iff.1 h1
       subst h1
       exact .mk s0 s1 [] none 0 0 0 (fun _=>[]) (Nat.le_refl _) (by simp) (fun e=>absurd rfl e) (fun i p e=>by simp at e) (fun i p e=>by simp at e) rfl
     | some a =>
       refine .mk s0 s1 ys (cleanA (some a) c) c a.block a.off (fun i=>(css i).map cleanV) hok.le hmx (fun hne => ?_) (fun i p hi => ?_) (fun i p hi => ?_) hok.spotless
       ·have hpos:=List.length_pos_iff.2 hne
        have hc:¬c=0:=by have:=hok.le;omega
        have:=hok.at' a rfl (by omega)
        unfold cleanA
        simp only [if_neg hc]
        rw [←addr_eta this.1]
       ·obtain ⟨q1,q2,q3⟩:=hcell a rfl i p hi
        have hil:=(List.getElem?_eq_some_iff.1 hi).1
        have:=hok.at' a rfl (by have:=hok.le;omega)
        refine ro_cells this.2 (fun j u hj => ?_) (q2.cells hp).2
        rw [Nat.add_assoc]
        exact q3 j u hj
       ·obtain ⟨q1,q2,q3⟩:=hcell a rfl i p hi
        exact (q2.cells hp).1
def KRule (w:World) (y:Rule) (cs:List Value):Prop:=∃cs',cs=.string y.name::cs'∧KPart w y.body cs'
set_option maxRecDepth 100000 in
theorem open_rule {H:Type} {enc:TypeId×Value→H} {w:World} {base:Nat} {held:Bool} (fuel:Nat) (cs:List Value) (x:DataW H×List MemPlace)
  (h:DataW.trod enc Try.prog w base (fun _=>true) held fuel 54 cs=some x):∃y:Rule,KRule w y cs:=by
 obtain ⟨xs,n,hf,rfl,hlen,hxl,hfs⟩:=DataW.trod_struct Try.underlying54 h
 rw [c54] at hlen
 match xs,hxl with
 | [y0,y1],_ =>
   have g0:=hfs 0 { name := "Name",type:=9,offset:=0,embedded:=false,tag := "",pkgPath := "",byteOffset:=0 } rfl
   have g1:=hfs 1 { name := "Body",type:=52,offset:=1,embedded:=false,tag := "",pkgPath := "",byteOffset:=16 } rfl
   simp only [c9,c52] at g0 g1
   obtain ⟨s0,e0,_,_⟩:=DataW.trod_string Try.underlying9 g0
   obtain ⟨y,hy⟩:=open_part n _ _ g1
   refine ⟨⟨s0,y⟩,(cs.drop 1).take 3,?_,hy⟩
   match cs,hlen with
   | [a,b,d,e],_=>simp at e0;simp [e0]
set_option maxRecDepth 100000 in
theorem open_grammar {H:Type} {enc:TypeId×Value→H} {w:World} {base:Nat} {held:Bool} (fuel:Nat) (cs:List Value) (x:DataW H×List MemPlace)
  (h:DataW.trod enc Try.prog w base (fun _=>true) held fuel 24 cs=some x):∃(A:Option Addr) (c:Nat) (g:List Rule),cs=[.slice A g.length c]∧OkS w A g.length c∧∃b o css,RoGram (roW w) g (cleanA A c) c b o css:=by
 obtain ⟨xs,n,hf,rfl,hlen,hxl,hfs⟩:=DataW.trod_struct Try.underlying24 h
 rw [c24] at hlen
 match xs,hxl with
 | [y0],_ =>
   have g0:=hfs 0 { name := "Rules",type:=22,offset:=0,embedded:=false,tag := "",pkgPath := "",byteOffset:=0 } rfl
   simp only [c22] at g0
   obtain ⟨A,c,ys,css,e2,hok,hmx,hcell⟩:=open_ro (KRule w) Try.underlying22 c54 (by decide) (fun m hm cs x hx=>open_rule m cs x hx) g0
   refine ⟨A,c,ys,?_,hok,?_⟩
   ·match cs,hlen with
    | [a],_=>simpa using e2
   cases A with
   | none =>
     obtain ⟨h1,rfl⟩:=hok.nil rfl
     have h1:ys=[]:=List.length_eq_zero_iff.1 h1
     subst h1
     exact ⟨0,0,fun _=>[],Nat.le_refl _,by simp,fun e=>absurd rfl e,fun i p e=>by simp at e,fun i p e=>by simp at e,rfl⟩
   | some a =>
     have inr:∀(i:Nat) (p:Rule),ys[i]? = some p→a.spot=none∧a.block<w.heap.size:=by
      intro i p hi
      have hil:=(List.getElem?_eq_some_iff.1 hi).1
      exact hok.at' a rfl (by have:=hok.le;omega)
     refine ⟨a.block,a.off,fun i=>((css i).drop 1).map cleanV,hok.le,hmx,fun hne => ?_,fun i p hi => ?_,fun i p hi => ?_,hok.spotless⟩
     ·have hpos:=List.length_pos_iff.2 hne
      have hc:¬c=0:=by have:=hok.le;omega
      have:=hok.at' a rfl (by omega)
      unfold cleanA
      simp only [if_neg hc]
      rw [←addr_eta this.1]
     ·obtain ⟨q1,⟨cs',q2,q3⟩,q4⟩:=hcell a rfl i p hi
      have hin:=(inr i p hi).2
      have hp:0<w.heap.size:=by omega
      have:=ro_cells (cc:=css i) (b:=a.block) (o:=a.off+i*4) hin (fun j u hj=>by rw [Nat.add_assoc];exact q4 j u hj) (fun u hu=>by
       rw [q2] at hu
       rcases List.mem_cons.1 hu with rfl|hu
       ·exact .string _
       ·exact (q3.cells hp).2 u hu)
      rw [q2] at this ⊢
      exact this
     ·obtain ⟨q1,⟨cs',q2,q3⟩,q4⟩:=hcell a rfl i p hi
      have hp:0<w.heap.size:=by have:=(inr i p hi).2;omega
      rw [q2]
      exact (q3.cells hp).1
theorem open_items {H:Type} {enc:TypeId×Value→H} {w:World} {base:Nat} {held:Bool} (fuel:Nat) (cs:List Value) (x:DataW H×List MemPlace)
  (h:DataW.trod enc Try.prog w base (fun _=>true) held fuel 25 cs=some x):∃(A:Option Addr) (c:Nat) (g:List ByteArray),cs=[.slice A g.length c]∧OkS w A g.length c∧∃b o,RoStrs (roW w) g (cleanA A c) c b o:=by
 obtain ⟨A,c,ys,css,e2,hok,hmx,hcell⟩:=open_ro (fun (s:ByteArray) cs=>cs=[.string s]) Try.underlying25 c9 (by decide) (fun m hm cs x hx=>by
  obtain ⟨s,e,_,_⟩:=DataW.trod_string Try.underlying9 hx
  exact ⟨s,e⟩) h
 refine ⟨A,c,ys,e2,hok,?_⟩
 cases A with
 | none =>
   obtain ⟨h1,rfl⟩:=hok.nil rfl
   have h1:ys=[]:=List.length_eq_zero_iff.1 h1
   subst h1
   exact ⟨0,0,Nat.le_refl _,by simp,fun e=>absurd rfl e,fun i p e=>by simp at e,rfl⟩
 | some a =>
   refine ⟨a.block,a.off,hok.le,hmx,fun hne => ?_,fun i p hi => ?_,hok.spotless⟩
   ·have hpos:=List.length_pos_iff.2 hne
    have hc:¬c=0:=by have:=hok.le;omega
    have:=hok.at' a rfl (by omega)
    unfold cleanA
    simp only [if_neg hc]
    rw [←addr_eta this.1]
   ·obtain ⟨q1,q2,q4⟩:=hcell a rfl i p hi
    have hil:=(List.getElem?_eq_some_iff.1 hi).1
    have hin:=hok.at' a rfl (by have:=hok.le;omega)
    have:=ro_cells (cc:=css i) (b:=a.block) (o:=a.off+i) hin.2 (fun j u hj=>by
     have:=q4 j u hj
     rw [Nat.mul_one,←Nat.add_assoc] at this
     exact this) (fun u hu=>by
     rw [q2] at hu
     simp at hu
     subst hu
     exact .string _)
    rw [q2] at this
    exact this
set_option maxRecDepth 100000 in
theorem pos_cell {w:World} {base:Nat} {e t:TypeId} {a:Addr} {n c:Nat} (ht:Try.prog.underlying t=some (.slice e)) (h:Cell.okWide Try.prog w .any base t (.slice (some a) n c)):0<w.heap.size:=by
 simp only [Cell.okWide,ht,Cell.ok] at h
 obtain ⟨_,_,_,_,row,cells,hs,_⟩:=h
 unfold World.shape? at hs
 split at hs
 ·rename_i cc el fr hc
  rcases Nat.lt_or_ge a.block w.heap.size with q|q
  ·omega
  ·rw [Array.getElem?_eq_none q] at hc;cases hc
 ·cases hs
set_option maxRecDepth 100000 in
theorem ct24:Try.prog.cellTypes Try.prog.depth 24=some [22]:=by kernel_rfl
set_option maxRecDepth 100000 in
theorem pos_gram {w:World} {base:Nat} {a:Addr} {n c:Nat} (h:Value.okWide Try.prog w .any base 24 (.agg #[.slice (some a) n c])):0<w.heap.size:=by
 simp only [Value.okWide,Try.underlying24] at h
 obtain ⟨cs,e,_,ts,hts,_,hcell⟩:=h
 injection e with e
 subst e
 rw [ct24] at hts
 injection hts with hts
 subst hts
 obtain ⟨u,hu,hk⟩:=hcell 0 (.slice (some a) n c) rfl
 simp at hu
 subst hu
 exact pos_cell Try.underlying22 hk
set_option maxRecDepth 100000 in
theorem pos_items {w:World} {base:Nat} {a:Addr} {n c:Nat} (h:Value.okWide Try.prog w .any base 25 (.slice (some a) n c)):0<w.heap.size:=by
 simp only [Value.okWide,Try.underlying25] at h
 exact pos_cell Try.underlying25 h
theorem vr_arg {w:World} {A:Option Addr} {n c:Nat} (k:OkS w A n c) (hp:∀a,A=some a→0<w.heap.size):VR (rho0 w) (.slice (cleanA A c) n c) (.slice A n c):=by
 cases A with
 | none =>
   obtain ⟨rfl,rfl⟩:=k.nil rfl
   exact .slNil
 | some a =>
   rw [←cleanV_slice]
   exact k.vr (hp a rfl)
end Go.Ev.G24
end
section
namespace Go.Proofs.Ytcnllhnhinmokaa.parseAmong
open Go.ChangeShapes Go.WideShapes Go.ChangeAt Go.RowKit Go.Ev Go.Ev.G24
open Go.ChangeMaps (open_string shut_string)
theorem own:ownKnob Try.prog.godebug=none:=by kernel_rfl
theorem laidOut:laidOutB Try.prog=true:=by kernel_rfl
set_option maxRecDepth 100000 in
theorem lifted (os:Os) (started:os.Started) (H:Type) (enc:TypeId×Value→H) :
  ReturnsInHanded {} Try.checked os 6 .any (Rows.parseAmongSpec.pre6 enc Try.prog Try.f6 Rows.parseAmongRow.domain false) (Rows.parseAmongSpec.post enc Try.prog Try.f6 false true false false):=by
 refine returnsInHanded_of_change_sized (C:=Try.checked) own started (by kernel_rfl) Try.func6
  (ChangeSpec.witness6 (enc:=enc) (C:=Try.checked) false ⟨#[],#[.agg #[.slice none 0 0],.string ⟨#[]⟩,.slice none 0 0],[]⟩ 8 (by kernel_rfl) (by kernel_rfl) (by kernel_rfl) (by kernel_rfl)) ?_
 intro W base args ds gs before hval0 hW hcnd hsz0 _
 have hval:∀(j:Nat) t v,Try.f6.params[j]? = some t→args[j]? = some v→Value.okWide Try.prog W .any base t v:=hval0
 have hW':=hW
 obtain ⟨p,q,hA0,hV,rfl,hfz,hnd⟩:=hW
 have hA:DataW.TrodAll enc Try.prog W 0 (fun _=>true) true Try.f6.params.toList args.toList ds p:=hA0
 rw [Try.params6] at hA hval
 obtain ⟨v0,vs0,d0,ds0,p0,q0,hargs,rfl,rfl,h0,r0⟩:=trodAll_cons hA
 obtain ⟨v1,vs1,d1,ds1,p1,q1,rfl,rfl,rfl,h1,r1⟩:=trodAll_cons r0
 obtain ⟨v2,vs2,d2,ds2,p2,q2,rfl,rfl,rfl,h2,r2⟩:=trodAll_cons r1
 obtain ⟨rfl,rfl,rfl⟩:=trodAll_nil r2
 obtain rfl:args=#[v0,v1,v2]:=by cases args;simp_all
 obtain ⟨rfl,rfl⟩:=trodVars_none hV
 obtain ⟨cs,rfl,hcs⟩:=okWide_struct Try.underlying24 (hval 0 24 v0 rfl rfl)
 have k0:=h0
 have k1:=h1
 have k2:=h2
 have lt0:∀x∈p0,x.block<W.heap.size:=by
  obtain ⟨m,hm⟩:=k0
  exact DataW.trod_lt m _ _ _ hm
 have lt1:∀x∈p1,x.block<W.heap.size:=by
  obtain ⟨m,hm⟩:=k1
  exact DataW.trod_lt m _ _ _ hm
 have lt2:∀x∈p2,x.block<W.heap.size:=by
  obtain ⟨m,hm⟩:=k2
  exact DataW.trod_lt m _ _ _ hm
 obtain ⟨fuel0,hf0⟩:=h0
 obtain ⟨fuel1,hf1⟩:=h1
 obtain ⟨fuel2,hf2⟩:=h2
 obtain ⟨A0,c0,g,hcells0,ok0,b0,o0,css0,RG⟩:=open_grammar fuel0 _ _ hf0
 obtain ⟨A2,c2,items,hcells2,ok2,b2,o2,RS⟩:=open_items fuel2 _ _ hf2
 obtain ⟨rule,hcells1,_,_⟩:=DataW.trod_string Try.underlying9 hf1
 have hagg:cs=#[.slice A0 g.length c0]:=by
  apply Array.ext'
  simpa [Value.cells] using hcells0
 subst hagg
 have hv1:v1=.string rule:=by
  obtain ⟨s,rfl⟩:=okWide_string Try.underlying9 (hval 1 9 v1 rfl rfl)
  simpa [Value.cells] using hcells1
 have hv2:v2=.slice A2 items.length c2:=by
  obtain ⟨a,n,c,rfl⟩:=okWide_slice Try.underlying25 (hval 2 25 v2 rfl rfl)
  simpa [Value.cells] using hcells2
 subst hv1
 subst hv2
 have pos0:∀a,A0=some a→0<W.heap.size:=fun a e=>by
  subst e
  exact pos_gram (hval 0 24 _ rfl rfl)
 have pos2:∀a,A2=some a→0<W.heap.size:=fun a e=>by
  subst e
  exact pos_items (hval 2 25 _ rfl rfl)
 obtain ⟨_,hh,hs,rfl⟩:=law3_c RG RS ok2.spotless rule (heap0 W) (heap0_rom W) (Nat.le_refl _)
 clear hA0 hval0 hsz0
 refine (called hs (args':=[.agg #[.slice A0 g.length c0],.string rule,.slice A2 items.length c2]) (.cons (.agg (.cons (vr_arg ok0 pos0) .nil)) (.cons (.string _) (.cons (vr_arg ok2 pos2) .nil)))).mono fun e W' ⟨he,bel⟩ => ?_
 subst he
 exact ⟨_,rfl,_,_,_,[],_,[],hW',trodAll_mk1 (shut_bool Try.underlying4 _),(trodAll_cons_mk (Below.trod laidOut (by kernel_rfl) (of_decide_eq_true (by kernel_rfl)) k0 bel lt0) (trodAll_cons_mk (Below.trod laidOut (by kernel_rfl) (of_decide_eq_true (by kernel_rfl)) k1 bel lt1) (trodAll_cons_mk (Below.trod laidOut (by kernel_rfl) (of_decide_eq_true (by kernel_rfl)) k2 bel lt2) trodAll_mk0))),rfl,bel.frame _,fun h=>by cases h⟩
theorem over:Rows.parseAmongRow.holds Try.pinned (OpenSpec.ofChange Rows.parseAmongSpec) :=
 OpenClaim.holds_of_wide 6 Try.f6 rfl rfl rfl rfl rfl rfl rfl ⟨rfl,rfl,rfl,rfl,rfl⟩ rfl rfl rfl rfl rfl (by kernel_rfl) Try.func6 (by kernel_rfl)
  (of_decide_eq_true (by kernel_rfl)) (by unfold Func.isWrapper;first|(rw [if_pos (by decide +kernel)];kernel_rfl)|(rw [if_neg (by decide +kernel)];exact ⟨rfl,rfl⟩))
  (fun os started H enc _=>lifted os started H enc)
theorem proved:Rows.ParseAmongSaid:=over
#print axioms proved
end Go.Proofs.Ytcnllhnhinmokaa.parseAmong
namespace Go.Proofs.Ytcnllhnhinmokaa
theorem parseAmong_holds:Rows.ParseAmongSaid:=parseAmong.proved
end Go.Proofs.Ytcnllhnhinmokaa
end
