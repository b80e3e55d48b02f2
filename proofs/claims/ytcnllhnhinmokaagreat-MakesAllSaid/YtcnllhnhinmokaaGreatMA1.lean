/- The law MakesAll holds: for every grammar, rule and number, Makes answers with the document's lists in their order, where the document's answer speaks (at most 300 lists, of at most 6 items): part 2 of 6. -/
import Derived.Test.YtcnllhnhinmokaaGreatMA0
import Derived.LoopN
import Derived.Scope
import Derived.KernelRfl
import Derived.Test.YtcnllhnhinmokaaGreatProg
set_option linter.unusedVariables false
set_option linter.unusedSimpArgs false
set_option maxRecDepth 100000
set_option maxHeartbeats 16000000
section
namespace Go.Ev
open Go.RowKit
variable {P:Program} {ρ:Rho} {N:Bs} {h:Hp} {w:World} {a:A} {act:Act} {C:bI} {mk:Bool} {base g:Nat}
theorem A.get_put {a b:A} {d:Option Nat} {v:Value} (hn:True) (h:a.put d v=some b):b.n=a.n/\∀t,b.get t=if d=some t then v else a.get t:=by
 cases d with
 | none=>simp only[A.put,Option.some.injEq] at h;subst h;simp
 | some d =>
   simp only[A.put] at h
   split at h
   ·rename_i hlt
    injection h with h
    subst h
    have hlt':d<a.n:=by simpa[Nat.blt_eq] using hlt
    refine ⟨rfl,fun t => ?_⟩
    simp only[A.get]
    rw[Tr.get_put _ _ _ _]
    by_cases e:t=d
    ·subst e;simp
    ·have:¬d=t:=fun h=>e h.symm
     simp[e,this]
   ·cases h
theorem A.put_same {a b a1:A} {d:Option Nat} {v:Value} (hn:b.n=a.n) (h:a.put d v=some a1):∃b1,b.put d v=some b1:=by
 cases d with
 | none=>exact ⟨b,rfl⟩
 | some d =>
   simp only[A.put] at h ⊢
   rw[hn]
   split at h
   ·rename_i hlt
    exact ⟨_,rfl⟩
   ·cases h
structure Turned (P:Program) (C:bI) (mk:Bool) (g:Nat) (ops:List Oper) (o:Oper) (a:A) (h:Hp) (a1:A) (h1:Hp) (v:Value):Prop where
 put:a.put o.dst v=some a1
 val:(aW ops a o=true/\dD P C mk g h a o.op=some (v,h1))\/(aW ops a o=false/\v=ai/\h1=h)
theorem qQ {ops:List Oper} {o:Oper} {a1:A} {h1:Hp} (h0:bv P C mk ops g o a h=some (a1,h1)):∃v,Turned P C mk g ops o a h a1 h1 v:=by
 unfold bv at h0
 split at h0
 ·rename_i hw
  split at h0
  ·rename_i v h2 hv
   split at h0
   ·rename_i a2 ha
    injection h0 with h0
    injection h0 with e1 e2
    subst e1;subst e2
    exact ⟨v,ha,.inl ⟨hw,hv⟩⟩
   ·cases h0
  ·cases h0
 ·rename_i hw
  split at h0
  ·rename_i a2 ha
   injection h0 with h0
   injection h0 with e1 e2
   subst e1;subst e2
   exact ⟨ai,ha,.inr ⟨hw,rfl,rfl⟩⟩
  ·cases h0
theorem Turned.step {ops:List Oper} {o:Oper} {a1:A} {h1:Hp} {v:Value} (t:Turned P C mk g ops o a h a1 h1 v):bv P C mk ops g o a h=some (a1,h1):=by
 unfold bv
 rcases t.val with ⟨hw,hv⟩|⟨hw,rfl,rfl⟩
 ·rw[hw,hv]
  simp only[t.put]
 ·rw[hw]
  simp only[t.put]
theorem iI {op:Op} {v:Value} {h1:Hp} (hr:am mk op=true) (h0:dD P C mk g h a op=some (v,h1)):aN P g h a op=some v/\h1=h:=by
 unfold dD at h0
 rw[hr] at h0
 simp only[nz] at h0
 split at h0
 ·injection h0 with h0
  injection h0 with e1 e2
  subst e1;subst e2
  exact ⟨by assumption,rfl⟩
 ·cases h0
theorem Turned.heap {ops:List Oper} {o:Oper} {a1:A} {h1:Hp} {v:Value} (t:Turned P C mk g ops o a h a1 h1 v) (hr:am mk o.op=true):h1=h:=by
 rcases t.val with ⟨_,hv⟩|⟨_,_,e⟩
 ·exact (iI hr hv).2
 ·exact e
theorem qR {ops:Array Oper} {o:Oper} {a b:A} (h:∀t∈o.looksAt ops,b.get t=a.get t):aW ops.toList b o=aW ops.toList a o:=by
 unfold aW
 split
 ·rfl
 ·rename_i j want hg
  split
  ·rfl
  ·rename_i p hp
   split
   ·rfl
   ·rename_i d hd
    rw[h d]
    unfold Oper.looksAt
    rw[List.mem_append]
    refine .inr ?_
    have hp':ops[j]? = some p:=by simpa using hp
    simp[hg,hp',hd]
theorem rT {ops:Array Oper} {o:Oper} {a b:A} (h:∀t∈o.looksAt ops,b.get t=a.get t):∀x∈o.op.operands,b.ev x=a.ev x:=by
 intro x hx
 cases x with
 | tmp t =>
   simp only[A.ev]
   rw[h t]
   unfold Oper.looksAt
   rw[List.mem_append]
   refine .inl ?_
   rw[List.mem_filterMap]
   exact ⟨.tmp t,by simpa using hx,rfl⟩
 | const v=>rfl
 | global g=>rfl
 | func f=>rfl
theorem mf {a b:A} {C:bI} {op:Op} (hab:∀x∈op.operands,a.ev x=b.ev x) :
  aN P g h a op=aN P g h b op/\dD P C mk g h a op=dD P C mk g h b op:=by
 have k:=uc (P:=P) (h:=h) (C:=C) hab
 have kr:aN P g h a op=aN P g h b op:=by
  unfold aN
  rw[k.1,k.2.2]
 refine ⟨kr,?_⟩
 unfold dD
 rw[kr,k.2.1]
theorem nE {ops:List Oper} {ps:List (List Nat)} {gs:List (Nat×Hp)}:∀(r:List Oper) (i:Nat) (a:A) (h:Hp) (a1:A) (h1:Hp),cN P C mk base ops ps gs i r a h=some (a1,h1) ->
  ∃st:Nat->A×Hp,st 0=(a,h)/\st r.length=(a1,h1)/\∀k o,r[k]? = some o->bv P C mk ops (base+(i+k)) o (st k).1 (st k).2=some (st (k+1)) /\
   (am mk o.op=true->aW ops (st k).1 o=true->∃v,aN P (base+(i+k)) (st k).2 (st k).1 o.op=some v/\bA P (base+(i+k)) (st k).1 o.op v (i+k) ps gs=true)
 | [],i,a,h,a1,h1,hc=>by
   simp only[cN,Option.some.injEq,Prod.mk.injEq] at hc
   obtain ⟨rfl,rfl⟩:=hc
   exact ⟨fun _=>(a,h),rfl,rfl,fun k o ho=>by simp at ho⟩
 | o::r,i,a,h,a1,h1,hc=>by
   simp only[cN] at hc
   split at hc
   ·cases hc
   ·rename_i a2 h2 hs
    have step:∀(hrest:cN P C mk base ops ps gs (i+1) r a2 h2=some (a1,h1)) (hst:am mk o.op=true->aW ops a o=true->∃v,aN P (base+i) h a o.op=some v/\bA P (base+i) a o.op v i ps gs=true),
      ∃st:Nat->A×Hp,st 0=(a,h)/\st (o::r).length=(a1,h1)/\∀k o',(o::r)[k]? = some o'->bv P C mk ops (base+(i+k)) o' (st k).1 (st k).2=some (st (k+1)) /\
       (am mk o'.op=true->aW ops (st k).1 o'=true->∃v,aN P (base+(i+k)) (st k).2 (st k).1 o'.op=some v/\bA P (base+(i+k)) (st k).1 o'.op v (i+k) ps gs=true):=by
     intro hrest hst
     obtain ⟨st,s0,s1,s2⟩:=nE r (i+1) a2 h2 a1 h1 hrest
     refine ⟨fun k=>match k with|0=>(a,h)|k+1=>st k,rfl,s1,?_⟩
     intro k o' ho'
     cases k with
     | zero =>
       simp at ho'
       subst ho'
       refine ⟨by simpa[s0] using hs,hst⟩
     | succ k =>
       simp at ho'
       have:=s2 k o' ho'
       rw[show i+1+k=i+(k+1) by omega] at this
       exact this
    split at hc
    ·rename_i hr hw
     split at hc
     ·rename_i v hv
      split at hc
      ·rename_i hst
       exact step hc fun _ _=>⟨v,hv,hst⟩
      ·cases hc
     ·cases hc
    ·rename_i hne
     exact step hc fun e1 e2=>absurd e2 (by
      intro e2
      exact hne e1 e2)
theorem nF {ops:List Oper}:∀(r:List Oper) (i:Nat) (st:Nat->A×Hp) (gs:List (Nat×Hp)),
  (∀k o,r[k]? = some o->bv P C mk ops (base+(i+k)) o (st k).1 (st k).2=some (st (k+1)))->heaps P C mk base ops i r (st 0).1 (st 0).2=some gs ->
  ∀m,m<=r.length->(m=r.length\/∃o,r[m]? = some o/\am mk o.op=false) ->
   ∃l1 l2,gs=l1++(i+m,(st m).2)::l2/\∀e∈l1,∃j o,e.1=i+j/\j<m/\r[j]? = some o/\am mk o.op=false
 | [],i,st,gs,hst,hh,m,hm,_=>by
   simp only[heaps,Option.some.injEq] at hh
   simp at hm
   subst hm
   exact ⟨[],[],by simp[<-hh],by simp⟩
 | o::r,i,st,gs,hst,hh,m,hm,hk=>by
   simp only[heaps] at hh
   have h0:=hst 0 o (by simp)
   rw[Nat.add_zero] at h0
   rw[h0] at hh
   simp only at hh
   split at hh
   ·rename_i l hl
    have rec':=nF r (i+1) (fun k=>st (k+1)) l (fun k o' ho'=>by
     have:=hst (k+1) o' (by simpa using ho')
     rwa[show i+(k+1)=i+1+k by omega] at this) hl
    cases m with
    | zero =>
      rcases hk with hk|⟨o',ho',hr⟩
      ·simp at hk
      ·simp at ho'
       subst ho'
       rw[hr] at hh
       simp only[Option.some.injEq] at hh
       exact ⟨[],l,by simp[<-hh],by simp⟩
    | succ m =>
      obtain ⟨l1,l2,e1,e2⟩:=rec' m (by simpa using hm) (by simpa using hk)
      rw[show i+1+m=i+(m+1) by omega] at e1
      have lift:∀e∈l1,∃j o',e.1=i+j/\j<m+1/\(o::r)[j]? = some o'/\am mk o'.op=false:=by
       intro e he
       obtain ⟨j,o',f1,f2,f3,f4⟩:=e2 e he
       exact ⟨j+1,o',by omega,by omega,by simpa using f3,f4⟩
      split at hh
      ·injection hh with hh
       subst hh
       exact ⟨l1,l2,e1,lift⟩
      ·rename_i hr
       injection hh with hh
       subst hh
       refine ⟨(i,(st 0).2)::l1,l2,by simp[e1],?_⟩
       intro e he
       rcases mCo.1 he with rfl|he
       ·exact ⟨0,o,rfl,by omega,by simp,hr⟩
       ·exact lift e he
   ·cases hh
theorem rU {op:Op} {v:Value} {i:Nat} {ps:List (List Nat)}:∀{gs l1:List (Nat×Hp)} {m:Nat} {hm:Hp} {l2:List (Nat×Hp)},bA P g a op v i ps gs=true->gs=l1++(m,hm)::l2 ->
  (∀e∈l1,i∉aG ps e.1)->m∉aG ps i->aN P g hm a op=some v:=by
 intro gs l1
 induction l1 generalizing gs with
 | nil =>
   intro m hm l2 hs hg _ hp
   subst hg
   simp only[List.nil_append,bA] at hs
   split at hs
   ·rename_i hh
    exact absurd (mU.1 hh) hp
   ·split at hs
    ·rename_i u hu
     split at hs
     ·rename_i hv
      rw[hu,si _ _ _ hv]
     ·cases hs
    ·cases hs
 | cons e l1 ih =>
   intro m hm l2 hs hg hl hp
   subst hg
   obtain ⟨e,he⟩:=e
   simp only[List.cons_append,bA] at hs
   split at hs
   ·exact ih hs rfl (fun e he=>hl e (List.mem_cons_of_mem _ he)) hp
   ·split at hs
    ·split at hs
     ·split at hs
      ·rename_i hh
       exact absurd (mU.1 hh) (hl (e,he) (by simp))
      ·exact ih hs rfl (fun e he=>hl e (List.mem_cons_of_mem _ he)) hp
     ·cases hs
    ·cases hs
def cnt (f:Nat->Bool):Nat->Nat
 | 0=>0
 | n+1=>cnt f n+(if f n=true then 1 else 0)
theorem xU (f:Nat->Bool):∀n,cnt f n<=n
 | 0=>lRf 0
 | n+1=>by
   have:=xU f n
   simp only[cnt]
   split<;>omega
theorem mP {f:Nat->Bool}:∀{n:Nat},cnt f n=n->∀i,i<n->f i=true
 | 0,_,i,hi=>by omega
 | n+1,h,i,hi=>by
   have:=xU f n
   simp only[cnt] at h
   split at h
   ·rename_i hn
    by_cases e:i=n
    ·subst e;exact hn
    ·exact mP (n:=n) (by omega) i (by omega)
   ·omega
theorem gJ {f g:Nat->Bool}:∀{n:Nat},(∀j,j<n->g j=f j)->cnt g n=cnt f n
 | 0,_=>rfl
 | n+1,h=>by simp only[cnt,h n (by omega),gJ (fun j hj=>h j (Nat.lt_succ_of_lt hj))]
theorem mQ {f g:Nat->Bool} {i:Nat} (h0:f i=false) (h1:g i=true) (h2:∀j,j≠i->g j=f j):∀{n:Nat},i<n->cnt g n=cnt f n+1
 | 0,h=>by omega
 | n+1,h=>by
   simp only[cnt]
   by_cases e:i=n
   ·subst e
    rw[h0,h1,gJ (fun j hj=>h2 j (by omega))]
    simp
   ·rw[h2 n (fun h=>e h.symm),mQ h0 h1 h2 (by omega)]
    omega
structure gC (P:Program) (C:bI) (mk:Bool) (base:Nat) (ops:Array Oper) (st:Nat->A×Hp) (gs:List (Nat×Hp)):Prop where
 ordered:qY mk ops
 go:∀k o,ops[k]? = some o->bv P C mk ops.toList (base+k) o (st k).1 (st k).2=some (st (k+1)) /\
  (am mk o.op=true->aW ops.toList (st k).1 o=true->∃v,aN P (base+k) (st k).2 (st k).1 o.op=some v/\bA P (base+k) (st k).1 o.op v k (dG ops.toList) gs=true)
 heaps:∀m,m<=ops.size->(m=ops.size\/∃o,ops[m]? = some o/\am mk o.op=false) ->
  ∃l1 l2,gs=l1++(m,(st m).2)::l2/\∀e∈l1,∃o,e.1<m/\ops[e.1]? = some o/\am mk o.op=false
 small:True
theorem pD {ops:Array Oper} {a1:A} {h1:Hp} (hn:True) (hord:dp mk ops.toList=true) (h0:drawn P C mk base ops.toList a h=some (a1,h1)) :
  ∃st gs,gC P C mk base ops st gs/\st 0=(a,h)/\st ops.size=(a1,h1):=by
 unfold drawn at h0
 split at h0
 ·rename_i gs hgs
  obtain ⟨st,s0,s1,s2⟩:=nE _ _ _ _ _ _ h0
  refine ⟨st,gs,⟨ua hord,?_,?_,trivial⟩,s0,by simpa using s1⟩
  ·intro k o ho
   have:=s2 k o (by simpa using ho)
   rwa[Nat.zero_add] at this
  ·intro m hm hk
   obtain ⟨l1,l2,e1,e2⟩:=nF ops.toList 0 st gs (fun k o ho=>(s2 k o ho).1) (by rw[s0];exact hgs) m (by simpa using hm) (by simpa using hk)
   rw[Nat.zero_add] at e1
   refine ⟨l1,l2,e1,fun e he => ?_⟩
   obtain ⟨j,o,f1,f2,f3,f4⟩:=e2 e he
   rw[Nat.zero_add] at f1
   subst f1
   exact ⟨o,f2,by simpa using f3,f4⟩
 ·cases h0
namespace gC
variable {ops:Array Oper} {st:Nat->A×Hp} {gs:List (Nat×Hp)}
theorem n_same (c:gC P C mk base ops st gs):∀k,k<=ops.size->(st k).1.n=(st 0).1.n
 | 0,_=>rfl
 | k+1,hk=>by
   have ih:=n_same c k (by omega)
   obtain ⟨o,ho⟩:∃o,ops[k]? = some o:=⟨ops[k],Array.getElem?_eq_getElem (by omega)⟩
   obtain ⟨v,t⟩:=qQ (c.go k o ho).1
   have:=c.small
   rw[(A.get_put (by omega) t.put).1,ih]
theorem get_same (c:gC P C mk base ops st gs) {t:Nat} {k:Nat}:∀d,k+d<=ops.size->(∀j o,k<=j->j<k+d->ops[j]? = some o->o.dst≠some t)->(st (k+d)).1.get t=(st k).1.get t
 | 0,_,_=>rfl
 | d+1,hd,hno=>by
   have ih:=get_same c (t:=t) (k:=k) d (by omega) (fun j o h1 h2=>hno j o h1 (by omega))
   obtain ⟨o,ho⟩:∃o,ops[k+d]? = some o:=⟨ops[k+d],Array.getElem?_eq_getElem (by omega)⟩
   obtain ⟨v,tt⟩:=qQ (c.go (k+d) o ho).1
   have:=c.small
   have hns:=c.n_same (k+d) (by omega)
   have e:=(A.get_put (by omega) tt.put).2 t
   rw[if_neg (hno _ o (by omega) (by omega) ho)] at e
   rw[<-ih,<-e]
   rfl
theorem heap_same (c:gC P C mk base ops st gs) {k:Nat}:∀d,k+d<=ops.size->(∀j o,k<=j->j<k+d->ops[j]? = some o->am mk o.op=true)->(st (k+d)).2=(st k).2
 | 0,_,_=>rfl
 | d+1,hd,hno=>by
   have ih:=heap_same c (k:=k) d (by omega) (fun j o h1 h2=>hno j o h1 (by omega))
   obtain ⟨o,ho⟩:∃o,ops[k+d]? = some o:=⟨ops[k+d],Array.getElem?_eq_getElem (by omega)⟩
   obtain ⟨v,tt⟩:=qQ (c.go (k+d) o ho).1
   have e:=tt.heap (hno _ o (by omega) (by omega) ho)
   rw[<-ih,<-e]
   rfl
theorem next_effect (_c:gC P C mk base ops st gs) {k:Nat}:∀d,k+d=ops.size->∃m,k<=m/\m<=ops.size/\(m=ops.size\/∃o,ops[m]? = some o/\am mk o.op=false) /\
  ∀j o,k<=j->j<m->ops[j]? = some o->am mk o.op=true
 | 0,hd=>⟨k,lRf k,by omega,.inl (by omega),fun j o h1 h2=>by omega⟩
 | d+1,hd=>by
   obtain ⟨o,ho⟩:∃o,ops[k]? = some o:=⟨ops[k],Array.getElem?_eq_getElem (by omega)⟩
   cases hr:am mk o.op with
   | false=>exact ⟨k,lRf k,by omega,.inr ⟨o,ho,hr⟩,fun j o h1 h2=>by omega⟩
   | true =>
     obtain ⟨m,m1,m2,m3,m4⟩:=next_effect _c (k:=k+1) d (by omega)
     refine ⟨m,by omega,m2,m3,fun j o' h1 h2 h3 => ?_⟩
     by_cases e:j=k
     ·subst e
      rw[ho] at h3
      injection h3 with h3
      subst h3
      exact hr
     ·exact m4 j o' (by omega) h2 h3
end gC
structure nG (mk:Bool) (ops:Array Oper) (st:Nat->A×Hp) (O:Nat->Prop) (b:A) (hp:Hp):Prop where
 shut:CO ops O
 inside:∀i,O i->i<ops.size
 n:b.n=(st 0).1.n
 get:∀t k,k<=ops.size->(∀j o,ops[j]? = some o->o.dst=some t->(j<k<->O j))->b.get t=(st k).1.get t
 heap:∃k,k<=ops.size/\(∀j o,ops[j]? = some o->am mk o.op=false->(j<k<->O j))/\hp=(st k).2
theorem ko {ops:Array Oper} {st:Nat->A×Hp} {gs:List (Nat×Hp)} (c:gC P C mk base ops st gs) {O O':Nat->Prop} {b:A} {hp:Hp} (S:nG mk ops st O b hp) {i:Nat} {o:Oper}
  (ho:ops[i]? = some o) (hi:¬O i) (hd:∀e∈o.after,Region.binds .any e=true->O e.on) (hO:∀j,O' j<->(j=i\/O j)) :
  ∃b' hp',bv P C mk ops.toList (base+i) o b hp=some (b',hp')/\nG mk ops st O' b' hp':=by
 have hlt:i<ops.size:=(Array.getElem?_eq_some_iff.1 ho).1
 have hpre:=sh c.ordered S.shut i o ho hd
 have hanti:∀j p,ops[j]? = some p->O j->i∉aG (dG ops.toList) j:=by
  intro j p hp hj hc
  exact hi (sh c.ordered S.shut j p hp (fun e he hb=>S.shut j p hp hj e he hb) i hc)
 have before:∀j p,ops[j]? = some p->(∃d,p.dst=some d/\(d∈o.looksAt ops\/o.dst=some d))->j≠i->(j<i<->O j):=by
  intro j p hp ⟨d,hpd,hdd⟩ hne
  constructor
  ·intro hji
   rcases c.ordered.pair j i p o hji hp ho with h1|⟨_,h1,h2⟩
   ·exact hpre j h1
   ·have s:=Oper.apart_spec h1
    rcases hdd with h3|h3
    ·exact absurd h3 (s.1 d hpd)
    ·exact absurd h3 (s.2.1 d hpd)
  ·intro hj
   rcases Nat.lt_or_ge j i with h0|h0
   ·exact h0
   ·exfalso
    rcases c.ordered.pair i j o p (by omega) ho hp with h1|⟨_,h1,h2⟩
    ·exact hanti j p hp hj h1
    ·have s:=Oper.apart_spec h2
     rcases hdd with h3|h3
     ·exact s.1 d hpd h3
     ·exact s.2.1 d hpd h3
 have looks:∀t∈o.looksAt ops,b.get t=(st i).1.get t:=by
  intro t ht
  refine S.get t i (by omega) (fun j p hp hpd => ?_)
  by_cases e:j=i
  ·subst e
   simp[hi]
  ·exact before j p hp ⟨t,hpd,.inl ht⟩ e
 obtain ⟨hstep,hstab⟩:=c.go i o ho
 obtain ⟨v,T⟩:=qQ hstep
 have hsmall:=c.small
 have hni:=c.n_same i (by omega)
 obtain ⟨b',hb'⟩:=A.put_same (b:=b) (by rw[S.n,hni]) T.put
 have hbn:=A.get_put trivial hb'
 have hw:aW ops.toList b o=aW ops.toList (st i).1 o:=qR looks
 have hev:=mf (P:=P) (h:=(st i).2) (C:=C) (mk:=mk) (g:=base+i) (rT looks)
 have frame:∀t k,k<=ops.size->(∀j p,ops[j]? = some p->p.dst=some t->(j<k<->O' j))->b'.get t=(st k).1.get t:=by
  intro t k hk hall
  rw[hbn.2 t]
  by_cases e:o.dst=some t
  ·rw[if_pos e]
   have hik:i<k:=(hall i o ho e).2 ((hO i).2 (.inl rfl))
   have h1:(st (i+1)).1.get t=v:=by
    rw[(A.get_put (by omega) T.put).2 t,if_pos e]
   have h2:=c.get_same (t:=t) (k:=i+1) (k - (i+1)) (by omega) (fun j p hj1 hj2 hp hpd=>by
    have h3:O' j:=(hall j p hp hpd).1 (by omega)
    have h4:O j:=by
     rcases (hO j).1 h3 with h5|h5
     ·omega
     ·exact h5
    have:=(before j p hp ⟨t,hpd,.inr e⟩ (by omega)).2 h4
    omega)
   rw[show i+1+(k - (i+1))=k by omega] at h2
   rw[h2,h1]
  ·rw[if_neg e]
   refine S.get t k hk (fun j p hp hpd => ?_)
   have hji:j≠i:=by
    intro h0
    subst h0
    rw[ho] at hp
    injection hp with hp
    subst hp
    exact e hpd
   rw[hall j p hp hpd,hO]
   simp[hji]
 have shut':CO ops O':=by
  intro j p hp hj e he hb
  rw[hO]
  rcases (hO j).1 hj with h1|h1
  ·subst h1
   rw[ho] at hp
   injection hp with hp
   subst hp
   exact .inr (hd e he hb)
  ·exact .inr (S.shut j p hp h1 e he hb)
 have inside':∀j,O' j->j<ops.size:=by
  intro j hj
  rcases (hO j).1 hj with h1|h1
  ·omega
  ·exact S.inside j h1
 obtain ⟨k,hk,heff,hhp⟩:=S.heap
 cases hr:am mk o.op with
 | true =>
   refine ⟨b',hp,?_,shut',inside',by rw[hbn.1,S.n],frame,k,hk,?_,hhp⟩
   ·refine Turned.step (v:=v) ⟨hb',?_⟩
    rw[hw]
    rcases T.val with ⟨h1,h2⟩|⟨h1,h2,h3⟩
    ·refine .inl ⟨h1,?_⟩
     obtain ⟨u,hu,hst⟩:=hstab hr h1
     have hv:=(iI hr h2).1
     rw[hu] at hv
     injection hv with hv
     subst hv
     obtain ⟨m,m1,m2,m3,m4⟩:=c.next_effect (k:=k) (ops.size - k) (by omega)
     have hsame:=c.heap_same (k:=k) (m - k) (by omega) (fun j p hj1 hj2 hp=>m4 j p hj1 (by omega) hp)
     rw[show k+(m - k)=m by omega] at hsame
     obtain ⟨l1,l2,e1,e2⟩:=c.heaps m m2 m3
     have hm:=rU hst e1 (fun e he=>by
       obtain ⟨p,f1,f2,f3⟩:=e2 e he
       have:e.1<k:=by
        rcases Nat.lt_or_ge e.1 k with h0|h0
        ·exact h0
        ·have:=m4 e.1 p h0 f1 f2
         rw[f3] at this
         cases this
       exact hanti e.1 p f2 ((heff e.1 p f2 f3).1 this))
      (fun hc=>by
       have h5:=hpre m hc
       rcases m3 with rfl|⟨p,hp,hpr⟩
       ·exact absurd (S.inside _ h5) (by omega)
       ·have:=(heff m p hp hpr).2 h5
        omega)
     rw[hhp,<-hsame]
     have hcr:=(mf (P:=P) (h:=(st m).2) (C:=C) (mk:=mk) (g:=base+i) (rT looks)).1
     unfold dD
     rw[hr]
     simp only
     rw[hcr,hm]
     rfl
    ·exact .inr ⟨h1,h2,rfl⟩
   ·intro j p hp hpr
    rw[heff j p hp hpr,hO]
    constructor
    ·exact .inr
    ·rintro (h1|h1)
     ·subst h1
      rw[ho] at hp
      injection hp with hp
      subst hp
      rw[hr] at hpr
      cases hpr
     ·exact h1
 | false =>
   have hge:k<=i:=by
    rcases Nat.lt_or_ge i k with h0|h0
    ·exact absurd ((heff i o ho hr).1 h0) hi
    ·exact h0
   have hprev:∀j p,ops[j]? = some p->am mk p.op=false->j<i->O j:=by
    intro j p hp hpr hji
    rcases c.ordered.pair j i p o hji hp ho with h1|⟨h1,_⟩
    ·exact hpre j h1
    ·rw[hpr,hr] at h1
     cases h1
   have hsame:=c.heap_same (k:=k) (i - k) (by omega) (fun j p hj1 hj2 hp=>by
    cases hpr:am mk p.op with
    | true=>rfl
    | false =>
      have:=(heff j p hp hpr).2 (hprev j p hp hpr (by omega))
      omega)
   rw[show k+(i - k)=i by omega] at hsame
   have hhi:hp=(st i).2:=by rw[hhp,hsame]
   refine ⟨b',(st (i+1)).2,?_,shut',inside',by rw[hbn.1,S.n],frame,i+1,by omega,?_,rfl⟩
   ·refine Turned.step (v:=v) ⟨hb',?_⟩
    rw[hw,hhi,hev.2]
    exact T.val
   ·intro j p hp hpr
    rw[hO]
    constructor
    ·intro h1
     by_cases e:j=i
     ·exact .inl e
     ·exact .inr (hprev j p hp hpr (by omega))
    ·rintro (h1|h1)
     ·omega
     ·have:=(heff j p hp hpr).2 h1
      omega
def wk (N:Bs) (mk:Bool) (base:Nat) (ops:Array Oper) (listed:Array Bool) (b:Nat):Prop :=
 N.g b\/(mk=true/\∃i o,b=base+i/\ops[i]? = some o/\gU o.op=true/\listed.getD i false=false)
theorem mg {ops:List Oper} {o:Oper} (ho:aP o.op=true\/am mk o.op=false):bv P C mk ops g o a h=jF P C ops o a h:=by
 have:dD P C mk g h a o.op=fi P C h a o.op:=by
  unfold dD fi
  rcases ho with h1|h1
  ·have h2:am mk o.op=true:=by unfold am;rw[h1]
   rw[h2,h1]
   simp only
   unfold aN
   rw[h1]
  ·rw[h1]
 unfold bv jF
 rw[this]
theorem wl {o o':ak} (h:nA o o'=true):o=o':=by
 have vs:∀{l m:List Value},jW l m=true->l=m:=by
  intro l
  induction l with
  | nil=>intro m h;cases m<;>simp[jW] at h;rfl
  | cons x l ih =>
    intro m h
    cases m with
    | nil=>simp[jW] at h
    | cons y m =>
      simp only[jW] at h
      split at h
      ·rename_i hx
       rw[si _ _ _ hx,ih h]
      ·cases h
 unfold nA at h
 split at h
 ·split at h
  ·rename_i he
   have:=aF he
   subst this
   rw[vs h]
  ·cases h
 ·rfl
 ·cases h
theorem xV (W:WfP P) {n:Nat} {G G':Nat->Prop} (H:HR P ρ ⟨n,G⟩ h w) (A:ActR ρ a act) {ops:Array Oper} {i:Nat} {o:Oper} (ho:ops[i]? = some o) (hr:aP o.op=false) (hr2:am mk o.op=true)
  (hg:G g) (hG:∀b,G' b->G b/\b≠g) {a1:Ev.A} {h1:Hp} (hs:bv P C mk ops.toList g o a h=some (a1,h1))
  {K:Act->World->Prop} {Q:Exit->Act->World->Prop} (hK:∀ ρ1 w1 act1,ρ.le ρ1->ActR ρ1 a1 act1->HR P ρ1 ⟨n,G'⟩ h1 w1->Below n w w1->K act1 w1):wpOp P ops Q i K act w:=by
 unfold wpOp
 rw[ho]
 simp only[]
 unfold bv at hs
 rw[lz A ops o] at hs
 split at hs
 ·rename_i hw
  rw[if_pos hw]
  split at hs
  ·rename_i v h2 hv
   split at hs
   ·rename_i a2 ha
    injection hs with hs
    injection hs with hs1 hs2
    subst hs1;subst hs2
    obtain ⟨hv1,rfl⟩:=iI hr2 hv
    unfold aN at hv1
    rw[hr] at hv1
    simp only at hv1
    split at hv1
    ·rename_i ob f hm
     split at hv1
     ·rename_i ob' hget
      split at hv1
      ·rename_i hla
       have:=wl hla
       subst this
       injection hv1 with hv1
       subst hv1
       obtain ⟨s,e1,o',m,f',r1,r2,r3,r4⟩:=pM A o hm
       obtain ⟨k1,k2,k3⟩:=H.ghost hg hget (om r4) (o':=o') ⟨w.heap.size,0,m,0,true⟩ rfl (fun hle=>r2 _ _ hle) hG
       refine .inl ?_
       have hrun:(execOp act.eval o).run P w=.ok (.value (f' w.heap.size)) (w.alloc o'):=by
        rw[e1]
        simp[r1]
       unfold Oper.wp
       rw[hrun]
       exact hK _ _ _ k1 ((A.mono k1).put (r3 _ _ _ (by simp[Rho.put])) ha) k2 k3
      ·cases hv1
     ·cases hv1
    ·cases hv1
   ·cases hs
  ·cases hs
 ·rename_i hw
  rw[if_neg (by rw[hw];simp)]
  split at hs
  ·rename_i a2 ha
   injection hs with hs
   injection hs with hs1 hs2
   subst hs1;subst hs2
   exact hK ρ w _ (Rho.le_refl ρ) (A.put (v':=undef) (.tuple .nil) ha) (H.less (fun b hb=>(hG b hb).1)) (Below.refl _ _)
  ·cases hs
theorem CA (W:WfP P) (HC:bO P C) {ops:Array Oper} {st:Nat->A×Hp} {gs:List (Nat×Hp)} (c:gC P C mk base ops st gs) (hN:mk=true->∀b,N.g b->b<base) {Q:Exit->Act->World->Prop} :
  ∀(fuel:Nat) (listed:Array Bool) (b:A) (hp:Hp) (ρ:Rho) (w:World) (act:Act),listed.size=ops.size->cnt (fun i=>listed.getD i false) ops.size+fuel=ops.size ->
  nG mk ops st (fun i=>listed.getD i false=true) b hp->HR P ρ ⟨N.n,wk N mk base ops listed⟩ hp w->ActR ρ b act ->
  (∀ ρ1 w1 act1,ρ.le ρ1->ActR ρ1 (st ops.size).1 act1->HR P ρ1 N (st ops.size).2 w1->Below N w w1->Q .normal act1 w1)->wpAny P .any ops Q fuel listed act w:=by
 intro fuel
 have fin:∀(listed:Array Bool) (b:A) (hp:Hp) (ρ:Rho) (w:World) (act:Act),(∀i,i<ops.size->listed.getD i false=true) ->
   nG mk ops st (fun i=>listed.getD i false=true) b hp->HR P ρ ⟨N.n,wk N mk base ops listed⟩ hp w->ActR ρ b act ->
   (∀ ρ1 w1 act1,ρ.le ρ1->ActR ρ1 (st ops.size).1 act1->HR P ρ1 N (st ops.size).2 w1->Below N w w1->Q .normal act1 w1)->Q .normal act w:=by
  intro listed b hp ρ w act hall S H A hQ
  refine hQ ρ w act (Rho.le_refl ρ) ?_ ?_ (Below.refl _ _)
  ·have hsz:=c.n_same ops.size (lRf _)
   refine ⟨fun t => ?_,?_,A.defers,?_⟩
   ·rw[<-S.get t ops.size (lRf _) (fun j o ho _=>⟨fun h=>hall j h,fun h=>S.inside j h⟩)]
    exact A.get t
   ·rw[A.size,S.n,hsz]
   ·trivial
  ·obtain ⟨k,hk,heff,hhp⟩:=S.heap
   have:=c.heap_same (k:=k) (ops.size - k) (by omega) (fun j p hj1 hj2 hp=>by
    cases hpr:am mk p.op with
    | true=>rfl
    | false =>
      have:=(heff j p hp hpr).2 (hall j (by omega))
      omega)
   rw[show k+(ops.size - k)=ops.size by omega] at this
   rw[this,<-hhp]
   exact H.less (n:=N.n) (g':=N.g) (fun b hb=>.inl hb)
 have none_ready:∀(listed:Array Bool),listed.size=ops.size->Region.ready .any ops listed=[]->∀i,i<ops.size->listed.getD i false=true:=by
  intro listed hsz hr i
  induction i using Nat.strongRecOn with
  | _ i ih =>
    intro hi
    cases hl:listed.getD i false with
    | true=>rfl
    | false =>
      exfalso
      obtain ⟨o,ho⟩:∃o,ops[i]? = some o:=⟨ops[i],Array.getElem?_eq_getElem hi⟩
      have:i∈Region.ready .any ops listed:=by
       rw[mem_ready]
       refine ⟨?_,o,ho,fun e he hb => ?_⟩
       ·have:i<listed.size:=by omega
        simpa[Array.getD,this] using hl
       ·have hlt:=c.ordered.edge i o ho e he hb
        exact ih e.on hlt (by omega)
      rw[hr] at this
      cases this
 induction fuel with
 | zero =>
   intro listed b hp ρ w act hsz hcnt S H A hQ
   have hall:=mP (f:=fun i=>listed.getD i false) (n:=ops.size) (by omega)
   refine ⟨?_,fin listed b hp ρ w act hall S H A hQ⟩
   cases hr:Region.ready .any ops listed with
   | nil=>rfl
   | cons i r =>
     have:i∈Region.ready .any ops listed:=by rw[hr];simp
     obtain ⟨h1,o,ho,_⟩:=mem_ready.1 this
     have hlt:i<ops.size:=(Array.getElem?_eq_some_iff.1 ho).1
     have h2:=hall i hlt
     have:i<listed.size:=by omega
     simp[Array.getD,this] at h1 h2
     rw[h1] at h2
     cases h2
 | succ fuel ih =>
   intro listed b hp ρ w act hsz hcnt S H A hQ
   refine ⟨fun hr=>fin listed b hp ρ w act (none_ready listed hsz hr) S H A hQ,fun i hi => ?_⟩
   obtain ⟨h1,o,ho,hd⟩:=mem_ready.1 hi
   have hlt:i<ops.size:=(Array.getElem?_eq_some_iff.1 ho).1
   have hli:i<listed.size:=by omega
   have hOi:listed.getD i false=false:=by simpa[Array.getD,hli] using h1
   have hset:∀j,(listed.setIfInBounds i true).getD j false=false->listed.getD j false=false/\j≠i:=by
    intro j hj
    by_cases e:i=j
    ·subst e
     simp[hli] at hj
    ·rw[getD_set_ne false e] at hj
     exact ⟨hj,fun h=>e h.symm⟩
   have hless:∀d,wk N mk base ops (listed.setIfInBounds i true) d->wk N mk base ops listed d:=by
    rintro d (hd|⟨hm,j,p,e1,e2,e3,e4⟩)
    ·exact .inl hd
    ·exact .inr ⟨hm,j,p,e1,e2,e3,(hset j e4).1⟩
   obtain ⟨b',hp',hstep,S'⟩:=ko c S (O':=fun j=>(listed.setIfInBounds i true).getD j false=true) ho (by simp[hOi]) hd (fun j=>by
    by_cases e:i=j
    ·subst e
     simp[hli]
    ·rw[getD_set_ne false e]
     simp[show ¬j=i from fun h=>e h.symm])
   have go:∀ ρ1 w1 act1,ρ.le ρ1->ActR ρ1 b' act1->HR P ρ1 ⟨N.n,wk N mk base ops (listed.setIfInBounds i true)⟩ hp' w1->Below N.n w w1->wpAny P .any ops Q fuel (listed.setIfInBounds i true) act1 w1:=by
    intro ρ1 w1 act1 r1 r2 r3 r4
    refine ih _ b' hp' ρ1 w1 act1 (by simp[hsz]) ?_ S' r3 r2 (fun ρ2 w2 act2 s1 s2 s3 s4=>hQ ρ2 w2 act2 (Rho.le_trans r1 s1) s2 s3 (r4.trans s4))
    rw[mQ (f:=fun i=>listed.getD i false) (i:=i) hOi (by simp[hli]) (fun j hj=>getD_set_ne false (Ne.symm hj)) hlt]
    omega
   by_cases hpl:aP o.op=true\/am mk o.op=false
   ·rw[mg hpl] at hstep
    exact mN W HC H A ho hstep (fun ρ1 w1 act1 r1 r2 r3 r4=>go ρ1 w1 act1 r1 r2 (r3.less hless) r4)
   ·rw[not_or] at hpl
    have hr:aP o.op=false:=by simpa using hpl.1
    have hr2:am mk o.op=true:=by simpa using hpl.2
    have hmk:mk=true/\gU o.op=true:=by
     unfold am at hr2
     rw[hr] at hr2
     cases mk
     ·cases hr2
     ·exact ⟨rfl,hr2⟩
    refine xV W H A ho hr hr2 (.inr ⟨hmk.1,i,o,rfl,ho,hmk.2,hOi⟩) (fun d hd=>⟨hless d hd,fun e => ?_⟩) hstep (fun ρ1 w1 act1 r1 r2 r3 r4=>go ρ1 w1 act1 r1 r2 r3 r4)
    subst e
    rcases hd with hd|⟨_,j,p,e1,e2,e3,e4⟩
    ·have:=hN hmk.1 _ hd
     omega
    ·exact (hset j e4).2 (by omega)
theorem nH (W:WfP P) (HC:bO P C) {ops:Array Oper} {id:Nat} {a1:A} {h1:Hp} (hord:dp mk ops.toList=true) (hN:mk=true->∀b,N.g b->b<base)
  (H:HR P ρ ⟨N.n,wk N mk base ops (Array.replicate ops.size false)⟩ h w) (A:ActR ρ a act) (h0:drawn P C mk base ops.toList a h=some (a1,h1)) {Q:Exit->Act->World->Prop}
  (hQ:∀ ρ1 w1 act1,ρ.le ρ1->ActR ρ1 a1 act1->HR P ρ1 N h1 w1->Below N w w1->Q .normal act1 w1):(Code.region id ops true).wp P Q act w:=by
 obtain ⟨st,gs,c,s0,s1⟩:=pD A.n hord h0
 refine wp_region_any W.mixed ?_
 refine CA (N:=N) W HC c hN ops.size _ a h ρ _ act (by simp) ?_ ?_ (H.drewn _) A (fun ρ1 w1 act1 r1 r2 r3 r4=>hQ ρ1 w1 act1 r1 (by rw[s1] at r2;exact r2) (by rw[s1] at r3;exact r3) ((Below.refl N.n w).drew.trans r4))
 ·have:cnt (fun i=>(Array.replicate ops.size false).getD i false) ops.size=cnt (fun _=>false) ops.size:=gJ (fun j hj=>by simp[hj])
  rw[this]
  have h0:∀n,cnt (fun _=>false) n=0:=by
   intro n
   induction n with
   | zero=>rfl
   | succ n ih=>simp[cnt,ih]
  rw[h0]
  omega
 ·have nope:∀j,¬(Array.replicate ops.size false).getD j false=true:=by
   intro j
   by_cases hj:j<ops.size<;>simp[Array.getD,hj]
  refine ⟨fun i o _ hi=>absurd hi (nope i),fun i hi=>absurd hi (nope i),by rw[s0],fun t k hk hall => ?_,0,by omega,fun j o _ _=>⟨fun h=>by omega,fun h=>absurd h (nope j)⟩,by rw[s0]⟩
  have:=c.get_same (t:=t) (k:=0) k (by omega) (fun j o _ hj ho hod=>nope j ((hall j o ho hod).1 (by omega)))
  rw[Nat.zero_add,s0] at this
  exact this.symm
theorem vb (W:WfP P) (HC:bO P C) {ops:Array Oper} {id:Nat} {a1:A} {h1:Hp} (H:HR P ρ N h w) (A:ActR ρ a act) (h0:iG P C ops.toList a h=some (a1,h1)) {Q:Exit->Act->World->Prop}
  (hQ:∀ ρ1 w1 act1,ρ.le ρ1->ActR ρ1 a1 act1->HR P ρ1 N h1 w1->Below N w w1->Q .normal act1 w1):(Code.region id ops true).wp P Q act w:=by
 unfold iG at h0
 split at h0
 ·rename_i hord
  refine nH (mk:=false) (N:=N) W HC hord (fun e=>by cases e) (H.less (n:=N.n) (g:=N.g) (fun b hb => ?_)) A h0 hQ
  rcases hb with hb|⟨e,_⟩
  ·exact hb
  ·cases e
 ·split at h0
  ·rename_i hord
   have H1:=HR.room (n:=N.n) (g:=N.g) H ops.size
   have H2:=jk (base:=h.next) (k:=ops.size) (fun i hi=>.inr ⟨by omega,by omega⟩) (mc P C (nB ops.toList (dG ops.toList)) h.next ops.toList 0 ops.toList a { h with next:=h.next+ops.size }) _ H1 (fun i hi r hr=>by
    have:=H.cover _ _ hr
    omega)
   refine nH (mk:=true) (base:=h.next) (N:=N) W HC hord (fun _ b hb=>(H.gho b hb).2) (H2.less (fun b hb => ?_)) A (by simpa using h0) hQ
   rcases hb with hb|⟨_,i,o,e1,e2,_,_⟩
   ·exact .inl hb
   ·have:i<ops.size:=(Array.getElem?_eq_some_iff.1 e2).1
    exact .inr ⟨by omega,by omega⟩
  ·cases h0
end Go.Ev
end
section
namespace Go.Ev
open Go.RowKit
section
variable {P:Program} {ρ:Rho} {N:Bs} {h:Hp} {w:World} {a:A} {act:Act} {C:bI}
def Ex.to:Ex->Exit
 | .normal=>.normal
 | .exit id=>.exit id
 | .ret=>.ret
theorem we (W:WfP P) (HC:bO P C):∀(n:Nat),
  (∀(c:Code) (ρ:Rho) (h:Hp) (w:World) (a:Ev.A) (act:Act) (e:Ex) (a1:Ev.A) (h1:Hp),HR P ρ N h w->ActR ρ a act->di P C n c a h=some (e,a1,h1) ->
   ∀Q:Exit->Act->World->Prop,(∀ ρ1 w1 act1,ρ.le ρ1->ActR ρ1 a1 act1->HR P ρ1 N h1 w1->Below N w w1->Q e.to act1 w1)->c.wp P Q act w) /\
  (∀(c:Code) (ρ:Rho) (h:Hp) (w:World) (a:Ev.A) (act:Act) (e:Ex) (a1:Ev.A) (h1:Hp),HR P ρ N h w->ActR ρ a act->di P C n (.loop c) a h=some (e,a1,h1) ->
   ∀Q:Exit->Act->World->Prop,(∀ ρ1 w1 act1,ρ.le ρ1->ActR ρ1 a1 act1->HR P ρ1 N h1 w1->Below N w w1->Q e.to act1 w1)->Code.rounds P c Q n act w):=by
 intro n
 induction n with
 | zero =>
   refine ⟨?_,?_⟩<;>intro c ρ h w a act e a1 h1 H A hc<;>simp[di] at hc
 | succ n ih =>
   have L:∀(c:Code) (ρ:Rho) (h:Hp) (w:World) (a:Ev.A) (act:Act) (e:Ex) (a1:Ev.A) (h1:Hp),HR P ρ N h w->ActR ρ a act->di P C (n+1) (.loop c) a h=some (e,a1,h1) ->
     ∀Q:Exit->Act->World->Prop,(∀ ρ1 w1 act1,ρ.le ρ1->ActR ρ1 a1 act1->HR P ρ1 N h1 w1->Below N w w1->Q e.to act1 w1)->Code.rounds P c Q (n+1) act w:=by
    intro c ρ h w a act e a1 h1 H A hc Q hQ
    rw[rounds_succ]
    simp only[di] at hc
    split at hc
    ·rename_i a2 h2 hb
     refine ih.1 c ρ h w a act .normal a2 h2 H A hb _ (fun ρ1 w1 act1 r1 r2 r3 r4 => ?_)
     exact ih.2 c ρ1 h2 w1 a2 act1 e a1 h1 r3 r2 hc Q (fun ρ2 w2 act2 s1 s2 s3 s4=>hQ ρ2 w2 act2 (Rho.le_trans r1 s1) s2 s3 (r4.trans s4))
    ·rename_i hne
     refine ih.1 c ρ h w a act e a1 h1 H A hc _ (fun ρ1 w1 act1 r1 r2 r3 r4 => ?_)
     cases e with
     | normal=>exact absurd hc (hne a1 h1)
     | exit id=>exact hQ ρ1 w1 act1 r1 r2 r3 r4
     | ret=>exact hQ ρ1 w1 act1 r1 r2 r3 r4
   refine ⟨?_,L⟩
   intro c ρ h w a act e a1 h1 H A hc Q hQ
   cases c with
   | skip =>
     simp only[di,Option.some.injEq,Prod.mk.injEq] at hc
     obtain ⟨rfl,rfl,rfl⟩:=hc
     exact wp_skip (hQ ρ w act (Rho.le_refl ρ) A H (Below.refl _ _))
   | label l =>
     simp only[di,Option.some.injEq,Prod.mk.injEq] at hc
     obtain ⟨rfl,rfl,rfl⟩:=hc
     exact wp_label (hQ ρ w act (Rho.le_refl ρ) A H (Below.refl _ _))
   | region id ops d =>
     cases d with
     | false =>
       simp only[di] at hc
       split at hc
       ·rename_i a2 h2 hs
        simp only[Option.some.injEq,Prod.mk.injEq] at hc
        obtain ⟨rfl,rfl,rfl⟩:=hc
        refine wp_region ?_
        have:=Cz (N:=N) W HC (ops:=ops) (Q:=Q) ops.toList [] (by simp) H A hs (fun ρ1 w1 act1 r1 r2 r3 r4=>hQ ρ1 w1 act1 r1 r2 r3 r4)
        simpa[List.range_eq_range'] using this
       ·cases hc
     | true =>
       simp only[di] at hc
       split at hc
       ·rename_i a2 h2 hs
        simp only[Option.some.injEq,Prod.mk.injEq] at hc
        obtain ⟨rfl,rfl,rfl⟩:=hc
        exact vb W HC H A hs (fun ρ1 w1 act1 r1 r2 r3 r4=>hQ ρ1 w1 act1 r1 r2 r3 r4)
       ·cases hc
   | seq x y =>
     simp only[di] at hc
     refine wp_seq ?_
     split at hc
     ·rename_i a2 h2 hb
      refine ih.1 x ρ h w a act .normal a2 h2 H A hb _ (fun ρ1 w1 act1 r1 r2 r3 r4 => ?_)
      exact ih.1 y ρ1 h2 w1 a2 act1 e a1 h1 r3 r2 hc Q (fun ρ2 w2 act2 s1 s2 s3 s4=>hQ ρ2 w2 act2 (Rho.le_trans r1 s1) s2 s3 (r4.trans s4))
     ·rename_i hne
      refine ih.1 x ρ h w a act e a1 h1 H A hc _ (fun ρ1 w1 act1 r1 r2 r3 r4 => ?_)
      cases e with
      | normal=>exact absurd hc (hne a1 h1)
      | exit id=>exact hQ ρ1 w1 act1 r1 r2 r3 r4
      | ret=>exact hQ ρ1 w1 act1 r1 r2 r3 r4
   | cond x t f =>
     simp only[di] at hc
     split at hc
     ·rename_i hx
      have hv:=A.ev hx
      generalize hcv:act.eval x=cv at hv
      cases hv with
      | bool b=>exact wp_cond_true hcv (ih.1 t ρ h w a act e a1 h1 H A hc Q hQ)
     ·rename_i hx
      have hv:=A.ev hx
      generalize hcv:act.eval x=cv at hv
      cases hv with
      | bool b=>exact wp_cond_false hcv (ih.1 f ρ h w a act e a1 h1 H A hc Q hQ)
     ·cases hc
   | block id b =>
     simp only[di] at hc
     refine wp_block ?_
     split at hc
     ·rename_i j a2 h2 hb
      refine ih.1 b ρ h w a act (.exit j) a2 h2 H A hb _ (fun ρ1 w1 act1 r1 r2 r3 r4 => ?_)
      split at hc
      ·rename_i hj
       have hj:=aF hj
       simp only[Option.some.injEq,Prod.mk.injEq] at hc
       obtain ⟨rfl,rfl,rfl⟩:=hc
       simp only[Ex.to,Exit.inBlock,hj,if_true]
       exact hQ ρ1 w1 act1 r1 r2 r3 r4
      ·rename_i hj
       have hj':j≠id:=by
        intro e
        subst e
        simp at hj
       simp only[Option.some.injEq,Prod.mk.injEq] at hc
       obtain ⟨rfl,rfl,rfl⟩:=hc
       simp only[Ex.to,Exit.inBlock,hj',if_false]
       exact hQ ρ1 w1 act1 r1 r2 r3 r4
     ·rename_i hne
      refine ih.1 b ρ h w a act e a1 h1 H A hc _ (fun ρ1 w1 act1 r1 r2 r3 r4 => ?_)
      cases e with
      | normal=>exact hQ ρ1 w1 act1 r1 r2 r3 r4
      | exit id=>exact absurd hc (hne id a1 h1)
      | ret=>exact hQ ρ1 w1 act1 r1 r2 r3 r4
   | loop b=>exact wp_loop_rounds (n+1) (L b ρ h w a act e a1 h1 H A hc Q hQ)
   | scope b =>
     simp only[di] at hc
     refine wp_scope_straight ?_
     refine ih.1 b ρ h w a act e a1 h1 H A hc _ (fun ρ1 w1 act1 r1 r2 r3 r4 => ?_)
     cases e with
     | normal=>exact hQ ρ1 w1 act1 r1 r2 r3 r4
     | exit id=>exact hQ ρ1 w1 act1 r1 r2 r3 r4
     | ret=>exact hQ ρ1 w1 act1 r1 r2 r3 r4
   | exit id =>
     simp only[di,Option.some.injEq,Prod.mk.injEq] at hc
     obtain ⟨rfl,rfl,rfl⟩:=hc
     exact wp_exit (hQ ρ w act (Rho.le_refl ρ) A H (Below.refl _ _))
   | ret =>
     simp only[di,Option.some.injEq,Prod.mk.injEq] at hc
     obtain ⟨rfl,rfl,rfl⟩:=hc
     exact wp_ret (hQ ρ w act (Rho.le_refl ρ) A H (Below.refl _ _))
   | _=>simp[di] at hc
theorem nq {ρ:Rho}:∀{l l':List Value} (i:Nat) (t:Tr Value),VRs ρ l l'->∀k,
  (i<=k->k<i+l.length->∃v v',(eV l i t).get k=some v/\l'[k - i]? = some v'/\VR ρ v v')/\(k<i\/i+l.length<=k->(eV l i t).get k=t.get k)
 | [],_,i,t,.nil,k=>by
   refine ⟨fun h1 h2=>by simp at h2;omega,fun _=>rfl⟩
 | v::l,_,i,t,.cons (v':=v') (l':=l') hv hl,k=>by
   have rec':=nq (i+1) (t.put i v) hl k
   simp only[eV]
   constructor
   ·intro h1 h2
    simp only[List.length_cons] at h2
    by_cases e:k=i
    ·subst e
     rw[rec'.2 (.inl (by omega)),Tr.get_put _ _ _ _]
     exact ⟨v,v',by simp,by simp,hv⟩
    ·obtain ⟨u,u',r1,r2,r3⟩:=rec'.1 (by omega) (by omega)
     refine ⟨u,u',r1,?_,r3⟩
     rw[show k - i=(k - (i+1))+1 by omega,gC1]
     exact r2
   ·intro h0
    simp only[List.length_cons] at h0
    rw[rec'.2 (by omega),Tr.get_put _ _ _ _,if_neg (by omega)]
theorem ly {ρ:Rho} {args args':List Value} {n:Nat} (hA:VRs ρ args args') (h1:args.length<=n) :
  ActR ρ ⟨eV args 0 .lf,n⟩ { tmps:=args'.toArray++Array.replicate (n - args'.toArray.size) undef,defers:=[] }:=by
 have hl:=hA.length
 refine ⟨fun t => ?_,by simp;omega,rfl,trivial⟩
 have:=nq 0 (.lf:Tr Value) hA t
 simp only[A.get,Nat.zero_add] at this ⊢
 by_cases ht:t<args.length
 ·obtain ⟨v,v',r1,r2,r3⟩:=this.1 (by omega) ht
  rw[r1]
  simp only[Nat.sub_zero] at r2
  have ht':t<args'.length:=by omega
  have:(args'.toArray++Array.replicate (n - args'.toArray.size) undef).getD t undef=v':=by
   rw[Array.getD_eq_getD_getElem?,Array.getElem?_append_left (by simpa using ht')]
   simp[r2]
  rw[this]
  exact r3
 ·rw[this.2 (.inr (by omega)),Tr.get_lf]
  have:(args'.toArray++Array.replicate (n - args'.toArray.size) undef).getD t undef=undef:=by
   rw[Array.getD_eq_getD_getElem?,Array.getElem?_append_right (by simp;omega)]
   rw[Array.getElem?_replicate]
   split<;>rfl
  rw[this]
  exact .tuple .nil
theorem tK (H:HR P ρ N h w) (A:ActR ρ a act) {r:ResultVar} {v:Value} (hv:km P h a r=some v) :
  ∃v',((match r with|.tmp t=>pure (act.tmps.getD t undef)|.cell a t=>do loadVar t (<-asAddr (act.tmps.getD a undef)):Sem Value)).run P w=.ok v' w/\VR ρ v v':=by
 cases r with
 | tmp t =>
   simp only[km,Option.some.injEq] at hv
   subst hv
   exact ⟨_,by simp,A.get t⟩
 | cell t ty =>
   simp only[km] at hv
   split at hv
   ·rename_i p hp
    have:=A.get t
    rw[hp] at this
    generalize hcv:act.tmps.getD t undef=cv at this
    cases this with
    | ptr ha =>
      obtain ⟨v',h1,h2⟩:=mp H ha hv
      refine ⟨v',?_,h2⟩
      simp only[hcv]
      simp[asAddr,h1]
   ·cases hv
theorem gq (H:HR P ρ N h w) (A:ActR ρ a act):∀{l:List ResultVar} {vs:List Value},cS P h a l=some vs ->
  ∃vs',(l.mapM (fun|.tmp t=>pure (act.tmps.getD t undef)|.cell a t=>do loadVar t (<-asAddr (act.tmps.getD a undef)):ResultVar->Sem Value)).run P w=.ok vs' w/\VRs ρ vs vs'
 | [],vs,hv=>by
   simp only[cS,Option.some.injEq] at hv
   subst hv
   exact ⟨[],by simp,.nil⟩
 | r::l,vs,hv=>by
   simp only[cS] at hv
   split at hv
   ·rename_i v r' hv1 hr
    injection hv with hv
    subst hv
    obtain ⟨v',e1,e2⟩:=tK H A hv1
    obtain ⟨vs',f1,f2⟩:=gq H A hr
    refine ⟨v'::vs',?_,.cons e2 f2⟩
    rw[List.mapM_cons]
    simp only[Sem.run_bind]
    erw [e1]
    simp only[Result.andThen_ok]
    erw [f1]
    simp
   ·cases hv
theorem u6 (W:WfP P):∀n,bO P (nC P n)
 | 0=>by intro f args h v h1 hv;simp[nC] at hv
 | n+1=>by
   intro f args h v h1 hv
   simp only[nC] at hv
   split at hv
   ·cases hv
   ·rename_i fn hf
    split at hv
    ·cases hv
    ·rename_i c hb
     split at hv
     ·rename_i hlen hname
      refine ⟨⟨fn,c,hf,hb,hname⟩,?_⟩
      intro ρ N w args' H hA
      have h1':args.length<=fn.ntmps:=by simpa using hlen
      have A:=ly hA h1'
      refine calls_of_wp hf hb ?_
      have fin:∀(e:Ex) (a1:Ev.A) (h2:Hp),di P (nC P n) 20000 c ⟨eV args 0 .lf,fn.ntmps⟩ h=some (e,a1,h2)->(e.to=.normal\/e.to=.ret) ->
        (match cS P h2 a1 fn.results.toList with|some [v]=>some (v,h2)|some vs=>some (.tuple vs.toArray,h2)|none=>none)=some (v,h1) ->
        c.wp P (bodyPost P fn fun e w1=>∃ ρ1 v',e=.returned v'/\ρ.le ρ1/\HR P ρ1 N h1 w1/\VR ρ1 v v'/\Below N w w1) { tmps:=args'.toArray++Array.replicate (fn.ntmps - args'.toArray.size) undef,defers:=[] } w:=by
       intro e a1 h2 hc he hr
       refine (we (N:=N) W (u6 W n) 20000).1 c ρ h w _ _ e a1 h2 H A hc _ (fun ρ1 w1 act1 r1 r2 r3 r4 => ?_)
       have key:act1.defers=[]/\∃v',(results fn act1.tmps).run P w1=.ok v' w1/\∃ ρ1 v'',Ending.returned v'=.returned v''/\ρ.le ρ1/\HR P ρ1 N h1 w1/\VR ρ1 v v''/\Below N w w1:=by
        refine ⟨r2.defers,?_⟩
        cases hrs:cS P h2 a1 fn.results.toList with
        | none=>rw[hrs] at hr;cases hr
        | some vs =>
          rw[hrs] at hr
          obtain ⟨vs',f1,f2⟩:=gq r3 r2 hrs
          have hl:=f2.length
          have harr:((fn.results.mapM (fun|.tmp t=>pure (act1.tmps.getD t undef)|.cell a t=>do loadVar t (<-asAddr (act1.tmps.getD a undef)):ResultVar->Sem Value))).run P w1=.ok vs'.toArray w1:=by
           rw[Array.mapM_eq_mapM_toList,Sem.run_map]
           erw [f1]
           rfl
          unfold results
          simp only[Sem.run_bind]
          erw [harr]
          simp only[Result.andThen_ok]
          cases f2 with
          | nil =>
            simp only[Option.some.injEq,Prod.mk.injEq] at hr
            obtain ⟨rfl,rfl⟩:=hr
            exact ⟨_,by simp,ρ1,_,rfl,r1,r3,.tuple .nil,r4⟩
          | @cons u u' l l' hu hl2 =>
            cases hl2 with
            | nil =>
              simp only[Option.some.injEq,Prod.mk.injEq] at hr
              obtain ⟨rfl,rfl⟩:=hr
              exact ⟨_,by simp,ρ1,_,rfl,r1,r3,hu,r4⟩
            | @cons u2 u2' l2 l2' hu2 hl3 =>
              simp only[Option.some.injEq,Prod.mk.injEq] at hr
              obtain ⟨rfl,rfl⟩:=hr
              exact ⟨.tuple (u'::u2'::l2').toArray,by simp,ρ1,_,rfl,r1,r3,.tuple (.cons hu (.cons hu2 hl3)),r4⟩
       rcases he with he|he<;>rw[he]<;>exact key
      split at hv
      ·cases hv
      ·rename_i e a1 h2 hne hc
       cases e with
       | normal=>exact fin .normal a1 h2 hc (.inl rfl) hv
       | exit id=>first|exact absurd rfl (hne id)|exact (hne id rfl).elim
       | ret=>exact fin .ret a1 h2 hc (.inr rfl) hv
      ·cases hv
     ·cases hv
theorem HR.start (P:Program) (w:World):HR P (fun _=>none) ⟨w.heap.size,fun _=>False⟩ Hp.nil w:=by
 refine ⟨?_,?_,?_,?_,?_,?_,?_,?_,lRf _,fun _ hb=>hb.elim,lZr _,?_,?_,?_⟩<;>simp[Hp.nil,Tr.get_lf]
theorem rP (W:WfP P) {n:Nat} {f:FuncId} {b:Bool} {h1:Hp} (hc:nC P n f [] Hp.nil=some (.bool b,h1)) (w:World) :
  Calls P f #[] w fun e w1=>e=.returned (.bool b)/\Below w.heap.size w w1:=by
 refine ((u6 W n f [] Hp.nil _ h1 hc).2 (fun _=>none) ⟨w.heap.size,fun _=>False⟩ w [] (HR.start P w) .nil).mono ?_
 rintro e w1 ⟨ρ1,v',rfl,_,_,r3,r4⟩
 cases r3
 exact ⟨rfl,r4⟩
def xN (P:Program) (n:Nat) (f:FuncId):Bool:=match nC P n f [] Hp.nil with
 | some (.bool true,_)=>true
 | _=>false
theorem rQ (W:WfP P) {n:Nat} {f:FuncId} (hc:xN P n f=true) (w:World) :
  Calls P f #[] w fun e w1=>e=.returned (.bool true)/\Below w.heap.size w w1:=by
 unfold xN at hc
 split at hc
 ·rename_i h1 hh
  exact rP W hh w
 ·cases hc
end
section
variable {P:Program} {ρ:Rho} {N:Bs} {h:Hp} {w:World} {a:A} {act:Act} {C:bI}
def Snd (P:Program) (f:FuncId) (args:List Value) (h:Hp) (v:Value) (h1:Hp):Prop :=
 (∃fn c,P.funcs[f]? = some fn/\fn.body=some c/\(fn.name == "runtime.NumGoroutine")=false) /\
  ∀(ρ:Rho) (N:Bs) (w:World) (args':List Value),HR P ρ N h w->VRs ρ args args' ->
   Calls P f args'.toArray w fun e w1=>∃ ρ1 v',e=.returned v'/\ρ.le ρ1/\HR P ρ1 N h1 w1/\VR ρ1 v v'/\Below N w w1
theorem dz:bO P (fun _ _ _=>none):=fun _ _ _ _ _ e=>by cases e
noncomputable def orc (f:FuncId) (args:List Value) (h:Hp) (v:Value) (h1:Hp) (C:bI):bI:=fun g b k =>
 open Classical in if g=f/\b=args/\k=h then some (v,h1) else C g b k
theorem sn {f:FuncId} {args:List Value} {h h1:Hp} {v:Value}:orc f args h v h1 C f args h=some (v,h1):=by simp[orc]
theorem yp {f:FuncId} {args:List Value} {h h1:Hp} {v:Value} (s:Snd P f args h v h1) (HC:bO P C):bO P (orc f args h v h1 C):=by
 intro g b k u k1 e
 unfold orc at e
 split at e
 ·rename_i c
  obtain ⟨rfl,rfl,rfl⟩:=c
  injection e with e
  injection e with e1 e2
  subst e1;subst e2
  exact s
 ·exact HC g b k u k1 e
def AX (P:Program) (all:List Oper):List Oper->Ev.A->Hp->Ev.A->Hp->Prop
 | [],a,h,a1,h1=>a1=a/\h1=h
 | o::r,a,h,a1,h1=>∃C a2 h2,bO P C/\jF P C all o a h=some (a2,h2)/\AX P all r a2 h2 a1 h1
theorem AY (W:WfP P) {ops:Array Oper} {Q:Exit->Act->World->Prop}:∀(r pre:List Oper),ops.toList=pre++r->∀{ρ:Rho} {h:Hp} {w:World} {a:Ev.A} {act:Act} {a1:Ev.A} {h1:Hp},
  HR P ρ N h w->ActR ρ a act->AX P ops.toList r a h a1 h1 ->
  (∀ ρ1 w1 act1,ρ.le ρ1->ActR ρ1 a1 act1->HR P ρ1 N h1 w1->Below N w w1->Q .normal act1 w1)->wpOps P ops Q (List.range' pre.length r.length) act w:=by
 intro r
 induction r with
 | nil =>
   intro pre hp ρ h w a act a1 h1 H A hs hQ
   obtain ⟨rfl,rfl⟩:=hs
   simp only[List.length_nil,List.range'_zero,wpOps]
   exact hQ ρ w act (Rho.le_refl ρ) A H (Below.refl _ _)
 | cons o r ih =>
   intro pre hp ρ h w a act a1 h1 H A hs hQ
   obtain ⟨C,a2,h2,HC,hst,hr⟩:=hs
   have ho:ops[pre.length]? = some o:=by
    rw[<-Array.getElem?_toList,hp]
    simp
   rw[List.length_cons,List.range'_succ,wpOps]
   refine mN W HC H A ho hst (fun ρ1 w1 act1 r1 r2 r3 r4 => ?_)
   have:=ih (pre++[o]) (by rw[hp];simp) r3 r2 hr (fun ρ2 w2 act2 s1 s2 s3 s4=>hQ ρ2 w2 act2 (Rho.le_trans r1 s1) s2 s3 (r4.trans s4))
   simpa using this
def yq (P:Program) (ops:Array Oper) (a:Ev.A) (h:Hp) (a1:Ev.A) (h1:Hp):Prop:=∀(id:Nat) (N:Bs) (ρ:Rho) (w:World) (act:Act),HR P ρ N h w->ActR ρ a act->∀Q:Exit->Act->World->Prop,
 (∀ ρ1 w1 act1,ρ.le ρ1->ActR ρ1 a1 act1->HR P ρ1 N h1 w1->Below N w w1->Q .normal act1 w1)->(Code.region id ops true).wp P Q act w
inductive ez (P:Program):Code->Ev.A->Hp->Ex->Ev.A->Hp->Prop
 | skip {a:Ev.A} {h:Hp}:ez P .skip a h .normal a h
 | label {l:_} {a:Ev.A} {h:Hp}:ez P (.label l) a h .normal a h
 | region {id:Nat} {ops:Array Oper} {a:Ev.A} {h:Hp} {a1:Ev.A} {h1:Hp} (hs:AX P ops.toList ops.toList a h a1 h1):ez P (.region id ops false) a h .normal a1 h1
 | draw {id:Nat} {ops:Array Oper} {a:Ev.A} {h:Hp} {a1:Ev.A} {h1:Hp} (C:bI) (HC:bO P C) (hs:iG P C ops.toList a h=some (a1,h1)):ez P (.region id ops true) a h .normal a1 h1
 | draw2 {id:Nat} {ops:Array Oper} {a:Ev.A} {h:Hp} {a1:Ev.A} {h1:Hp} (hs:yq P ops a h a1 h1):ez P (.region id ops true) a h .normal a1 h1
 | seqN {x:Code} {y:Code} {a:Ev.A} {h:Hp} {a1:Ev.A} {h1:Hp} {e:Ex} {a2:Ev.A} {h2:Hp} (r:ez P x a h .normal a1 h1) (s:ez P y a1 h1 e a2 h2):ez P (.seq x y) a h e a2 h2
 | seqE {x:Code} {y:Code} {a:Ev.A} {h:Hp} {e:Ex} {a1:Ev.A} {h1:Hp} (r:ez P x a h e a1 h1) (he:e≠.normal):ez P (.seq x y) a h e a1 h1
 | condT {x:Operand} {t:Code} {f:Code} {a:Ev.A} {h:Hp} {e:Ex} {a1:Ev.A} {h1:Hp} (hx:a.ev x=some (.bool true)) (r:ez P t a h e a1 h1):ez P (.cond x t f) a h e a1 h1
 | condF {x:Operand} {t:Code} {f:Code} {a:Ev.A} {h:Hp} {e:Ex} {a1:Ev.A} {h1:Hp} (hx:a.ev x=some (.bool false)) (r:ez P f a h e a1 h1):ez P (.cond x t f) a h e a1 h1
 | blockX {id:Nat} {b:Code} {a:Ev.A} {h:Hp} {a1:Ev.A} {h1:Hp} (r:ez P b a h (.exit id) a1 h1):ez P (.block id b) a h .normal a1 h1
 | blockE {id:Nat} {b:Code} {a:Ev.A} {h:Hp} {e:Ex} {a1:Ev.A} {h1:Hp} (r:ez P b a h e a1 h1) (he:e≠.exit id):ez P (.block id b) a h e a1 h1
 | loopN {b:Code} {a:Ev.A} {h:Hp} {a1:Ev.A} {h1:Hp} {e:Ex} {a2:Ev.A} {h2:Hp} (r:ez P b a h .normal a1 h1) (s:ez P (.loop b) a1 h1 e a2 h2):ez P (.loop b) a h e a2 h2
 | loopE {b:Code} {a:Ev.A} {h:Hp} {e:Ex} {a1:Ev.A} {h1:Hp} (r:ez P b a h e a1 h1) (he:e≠.normal):ez P (.loop b) a h e a1 h1
 | scope {b:Code} {a:Ev.A} {h:Hp} {e:Ex} {a1:Ev.A} {h1:Hp} (r:ez P b a h e a1 h1):ez P (.scope b) a h e a1 h1
 | exit {id:Nat} {a:Ev.A} {h:Hp}:ez P (.exit id) a h (.exit id) a h
 | ret {a:Ev.A} {h:Hp}:ez P .ret a h .ret a h
theorem pH (W:WfP P) {c:Code} {a:Ev.A} {h:Hp} {e:Ex} {a1:Ev.A} {h1:Hp} (r:ez P c a h e a1 h1) :
  (∀(ρ:Rho) (w:World) (act:Act),HR P ρ N h w->ActR ρ a act->∀Q:Exit->Act->World->Prop,(∀ ρ1 w1 act1,ρ.le ρ1->ActR ρ1 a1 act1->HR P ρ1 N h1 w1->Below N w w1->Q e.to act1 w1)->c.wp P Q act w) /\
  (∀b,c=.loop b->∃n,∀(ρ:Rho) (w:World) (act:Act),HR P ρ N h w->ActR ρ a act->∀Q:Exit->Act->World->Prop,(∀ ρ1 w1 act1,ρ.le ρ1->ActR ρ1 a1 act1->HR P ρ1 N h1 w1->Below N w w1->Q e.to act1 w1)->Code.rounds P b Q n act w):=by
 induction r with
 | skip=>exact ⟨fun ρ w act H A Q hQ=>wp_skip (hQ ρ w act (Rho.le_refl ρ) A H (Below.refl _ _)),fun b hb=>by cases hb⟩
 | label=>exact ⟨fun ρ w act H A Q hQ=>wp_label (hQ ρ w act (Rho.le_refl ρ) A H (Below.refl _ _)),fun b hb=>by cases hb⟩
 | @region id ops a h a1 h1 hs =>
   refine ⟨fun ρ w act H A Q hQ => ?_,fun b hb=>by cases hb⟩
   refine wp_region ?_
   have:=AY (N:=N) W (ops:=ops) (Q:=Q) ops.toList [] (by simp) H A hs (fun ρ1 w1 act1 r1 r2 r3 r4=>hQ ρ1 w1 act1 r1 r2 r3 r4)
   simpa[List.range_eq_range'] using this
 | draw C HC hs=>exact ⟨fun ρ w act H A Q hQ=>vb W HC H A hs (fun ρ1 w1 act1 r1 r2 r3 r4=>hQ ρ1 w1 act1 r1 r2 r3 r4),fun b hb=>by cases hb⟩
 | draw2 hs=>exact ⟨fun ρ w act H A Q hQ=>hs _ N ρ w act H A Q (fun ρ1 w1 act1 r1 r2 r3 r4=>hQ ρ1 w1 act1 r1 r2 r3 r4),fun b hb=>by cases hb⟩
 | seqN r s ihr ihs =>
   refine ⟨fun ρ w act H A Q hQ=>wp_seq ?_,fun b hb=>by cases hb⟩
   refine ihr.1 ρ w act H A _ (fun ρ1 w1 act1 r1 r2 r3 r4 => ?_)
   exact ihs.1 ρ1 w1 act1 r3 r2 Q (fun ρ2 w2 act2 s1 s2 s3 s4=>hQ ρ2 w2 act2 (Rho.le_trans r1 s1) s2 s3 (r4.trans s4))
 | @seqE x y a h e a1 h1 r he ihr =>
   refine ⟨fun ρ w act H A Q hQ=>wp_seq ?_,fun b hb=>by cases hb⟩
   refine ihr.1 ρ w act H A _ (fun ρ1 w1 act1 r1 r2 r3 r4 => ?_)
   cases e with
   | normal=>exact absurd rfl he
   | exit id=>exact hQ ρ1 w1 act1 r1 r2 r3 r4
   | ret=>exact hQ ρ1 w1 act1 r1 r2 r3 r4
 | condT hx r ihr =>
   refine ⟨fun ρ w act H A Q hQ => ?_,fun b hb=>by cases hb⟩
   have hv:=A.ev hx
   generalize hcv:act.eval _=cv at hv
   cases hv with
   | bool b=>exact wp_cond_true hcv (ihr.1 ρ w act H A Q hQ)
 | condF hx r ihr =>
   refine ⟨fun ρ w act H A Q hQ => ?_,fun b hb=>by cases hb⟩
   have hv:=A.ev hx
   generalize hcv:act.eval _=cv at hv
   cases hv with
   | bool b=>exact wp_cond_false hcv (ihr.1 ρ w act H A Q hQ)
 | blockX r ihr =>
   refine ⟨fun ρ w act H A Q hQ=>wp_block ?_,fun b hb=>by cases hb⟩
   refine ihr.1 ρ w act H A _ (fun ρ1 w1 act1 r1 r2 r3 r4 => ?_)
   simp only[Ex.to,Exit.inBlock,if_true]
   exact hQ ρ1 w1 act1 r1 r2 r3 r4
 | @blockE id b a h e a1 h1 r he ihr =>
   refine ⟨fun ρ w act H A Q hQ=>wp_block ?_,fun b hb=>by cases hb⟩
   refine ihr.1 ρ w act H A _ (fun ρ1 w1 act1 r1 r2 r3 r4 => ?_)
   cases e with
   | normal=>exact hQ ρ1 w1 act1 r1 r2 r3 r4
   | exit j =>
     have hj':j≠id:=fun e=>he (by rw[e])
     simp only[Ex.to,Exit.inBlock,hj',if_false]
     exact hQ ρ1 w1 act1 r1 r2 r3 r4
   | ret=>exact hQ ρ1 w1 act1 r1 r2 r3 r4
 | @loopN b a h a1 h1 e a2 h2 r s ihr ihs =>
   have key:∃n,∀(ρ:Rho) (w:World) (act:Act),HR P ρ N h w->ActR ρ a act->∀Q:Exit->Act->World->Prop,(∀ ρ1 w1 act1,ρ.le ρ1->ActR ρ1 a2 act1->HR P ρ1 N h2 w1->Below N w w1->Q e.to act1 w1)->Code.rounds P b Q n act w:=by
    obtain ⟨n,hn⟩:=ihs.2 b rfl
    refine ⟨n+1,fun ρ w act H A Q hQ => ?_⟩
    rw[rounds_succ]
    refine ihr.1 ρ w act H A _ (fun ρ1 w1 act1 r1 r2 r3 r4 => ?_)
    exact hn ρ1 w1 act1 r3 r2 Q (fun ρ2 w2 act2 s1 s2 s3 s4=>hQ ρ2 w2 act2 (Rho.le_trans r1 s1) s2 s3 (r4.trans s4))
   refine ⟨fun ρ w act H A Q hQ => ?_,fun b' hb=>by cases hb;exact key⟩
   obtain ⟨n,hn⟩:=key
   exact wp_loop_rounds n (hn ρ w act H A Q hQ)
 | @loopE b a h e a1 h1 r he ihr =>
   have key:∃n,∀(ρ:Rho) (w:World) (act:Act),HR P ρ N h w->ActR ρ a act->∀Q:Exit->Act->World->Prop,(∀ ρ1 w1 act1,ρ.le ρ1->ActR ρ1 a1 act1->HR P ρ1 N h1 w1->Below N w w1->Q e.to act1 w1)->Code.rounds P b Q n act w:=by
    refine ⟨1,fun ρ w act H A Q hQ => ?_⟩
    rw[rounds_succ]
    refine ihr.1 ρ w act H A _ (fun ρ1 w1 act1 r1 r2 r3 r4 => ?_)
    cases e with
    | normal=>exact absurd rfl he
    | exit id=>exact hQ ρ1 w1 act1 r1 r2 r3 r4
    | ret=>exact hQ ρ1 w1 act1 r1 r2 r3 r4
   refine ⟨fun ρ w act H A Q hQ => ?_,fun b' hb=>by cases hb;exact key⟩
   obtain ⟨n,hn⟩:=key
   exact wp_loop_rounds n (hn ρ w act H A Q hQ)
 | @scope b a h e a1 h1 r ihr =>
   refine ⟨fun ρ w act H A Q hQ=>wp_scope_straight ?_,fun b hb=>by cases hb⟩
   refine ihr.1 ρ w act H A _ (fun ρ1 w1 act1 r1 r2 r3 r4 => ?_)
   cases e with
   | normal=>exact hQ ρ1 w1 act1 r1 r2 r3 r4
   | exit id=>exact hQ ρ1 w1 act1 r1 r2 r3 r4
   | ret=>exact hQ ρ1 w1 act1 r1 r2 r3 r4
 | exit=>exact ⟨fun ρ w act H A Q hQ=>wp_exit (hQ ρ w act (Rho.le_refl ρ) A H (Below.refl _ _)),fun b hb=>by cases hb⟩
 | ret=>exact ⟨fun ρ w act H A Q hQ=>wp_ret (hQ ρ w act (Rho.le_refl ρ) A H (Below.refl _ _)),fun b hb=>by cases hb⟩
end
section
variable {P:Program} {ρ:Rho} {N:Bs} {h:Hp} {w:World}
def A.set (a:Ev.A) (d:Option Nat) (v:Value):Ev.A:=match d with
 | none=>a
 | some d=>{ a with tmps:=a.tmps.put d v }
theorem A.set_n (a:Ev.A) (d:Option Nat) (v:Value):(a.set d v).n=a.n:=by cases d<;>rfl
theorem A.get_set (a:Ev.A) (d:Nat) (v:Value) (t:Nat):(a.set (some d) v).get t=if t=d then v else a.get t:=by
 simp only[A.set,A.get,Tr.get_put]
 by_cases e:t=d<;>simp[e]
theorem A.get_set_none (a:Ev.A) (v:Value) (t:Nat):(a.set none v).get t=a.get t:=rfl
def dL (n:Nat):Option Nat->Bool
 | none=>true
 | some d=>Nat.blt d n
theorem A.put_ok {a:Ev.A} {n:Nat} {d:Option Nat} (v:Value) (hd:dL n d=true) (hn:a.n=n):a.put d v=some (a.set d v):=by
 cases d with
 | none=>rfl
 | some d =>
   simp only[dL] at hd
   simp only[A.put,hn,hd,A.set]
def opt {α:Type} (o:Option α) (K:α->Prop):Prop:=match o with
 | some v=>K v
 | none=>False
def wif (b:Bool) (x y:Prop):Prop:=match b with
 | true=>x
 | false=>y
def fT (b:Bool) (x y:Prop):Prop:=(b=true->x)/\(b=false->y)
theorem yz {b:Bool} {x y:Prop} (h1:b=true->x) (h2:b=false->y):fT b x y:=⟨h1,h2⟩
theorem fU (x y:Prop):fT true x y=x:=by simp[fT]
theorem iS (x y:Prop):fT false x y=y:=by simp[fT]
theorem su {α:Type} (v:α) (K:α->Prop):opt (some v) K=K v:=rfl
theorem cX {α:Type} {o:Option α} {K:α->Prop} (k:opt o K):∃v,o=some v/\K v:=by
 cases o with
 | none=>exact k.elim
 | some v=>exact ⟨v,rfl,k⟩
def isB (v:Value) (K:Bool->Prop):Prop:=match v with
 | .bool b=>K b
 | _=>False
theorem yA {v:Value} {K:Bool->Prop} (k:isB v K):∃b,v=.bool b/\K b:=by
 cases v<;>simp only[isB] at k
 exact ⟨_,rfl,k⟩
def jL (c:Option (FuncId×List Value)) (x:FuncId->List Value->Prop) (y:Prop):Prop:=match c with
 | some (f,args)=>x f args
 | none=>y
def kD (P:Program) (op:Op) (a:Ev.A) (h:Hp) (K:Value->Hp->Prop):Prop :=
 wif (aP op) (opt (aH P h a op) fun v=>K v h)
  (jL (cR a op) (fun f args=>∃v h1,Snd P f args h v h1/\K v h1) (opt (cq P h a op) fun p=>K p.1 p.2))
def yB (P:Program) (all:List Oper) (o:Oper) (a:Ev.A) (h:Hp) (K:Ev.A->Hp->Prop):Prop :=
 wif (aW all a o) (kD P o.op a h (fun v h1=>K (a.set o.dst v) h1)) (K (a.set o.dst ai) h)
def Bj (P:Program) (all:List Oper):List Oper->Ev.A->Hp->(Ev.A->Hp->Prop)->Prop
 | [],a,h,K=>K a h
 | o::r,a,h,K=>yB P all o a h fun a1 h1=>Bj P all r a1 h1 K
theorem oi {op:Op} {a:Ev.A} {K:Value->Hp->Prop} (k:kD P op a h K):∃C v h1,bO P C/\fi P C h a op=some (v,h1)/\K v h1:=by
 unfold kD wif jL at k
 split at k
 ·rename_i hr
  obtain ⟨v,h0,hk⟩:=cX k
  exact ⟨_,v,h,dz,by simp only[fi,hr,h0,nz],hk⟩
 ·rename_i hr
  split at k
  ·rename_i f args hc
   obtain ⟨v,h1,s,hk⟩:=k
   exact ⟨_,v,h1,yp s dz,by simp only[fi,hr,hc];exact sn,hk⟩
  ·rename_i hc
   obtain ⟨⟨v,h1⟩,s,hk⟩:=cX k
   exact ⟨_,v,h1,dz,by simp only[fi,hr,hc];exact s,hk⟩
theorem yC {all:List Oper} {o:Oper} {a:Ev.A} {n:Nat} (hd:dL n o.dst=true) (hn:a.n=n) {K:Ev.A->Hp->Prop} (k:yB P all o a h K) :
  ∃C a1 h1,bO P C/\jF P C all o a h=some (a1,h1)/\a1.n=n/\K a1 h1:=by
 unfold yB wif at k
 split at k
 ·rename_i hw
  obtain ⟨C,v,h1,HC,h0,hk⟩:=oi k
  exact ⟨C,_,h1,HC,by simp only[jF,hw,h0,A.put_ok v hd hn],(A.set_n _ _ _).trans hn,hk⟩
 ·rename_i hw
  exact ⟨_,_,h,dz,by simp only[jF,hw,A.put_ok ai hd hn],(A.set_n _ _ _).trans hn,k⟩
theorem vi {all:List Oper} {n:Nat}:∀(r:List Oper) {a:Ev.A} {h:Hp} {K:Ev.A->Hp->Prop},r.all (fun o=>dL n o.dst)=true->a.n=n->Bj P all r a h K->∃a1 h1,AX P all r a h a1 h1/\a1.n=n/\K a1 h1
 | [],a,h,K,_,hn,k=>⟨a,h,⟨rfl,rfl⟩,hn,k⟩
 | o::r,a,h,K,hd,hn,k=>by
   simp only[List.all_cons,Bool.and_eq_true] at hd
   obtain ⟨C,a2,h2,HC,hs,hn2,k2⟩:=yC hd.1 hn k
   obtain ⟨a1,h1,r1,hn1,k1⟩:=vi r hd.2 hn2 k2
   exact ⟨a1,h1,⟨C,a2,h2,HC,hs,r1⟩,hn1,k1⟩
def yD (P:Program) (c:Code) (a:Ev.A) (h:Hp) (Q:Ex->Ev.A->Hp->Prop):Prop:=∃e a1 h1,ez P c a h e a1 h1/\a1.n=a.n/\Q e a1 h1
def cE (n:Nat):Code->Bool
 | .region _ ops _=>ops.toList.all fun o=>dL n o.dst
 | .seq x y=>match cE n x with
   | true=>cE n y
   | false=>false
 | .cond _ x y=>match cE n x with
   | true=>cE n y
   | false=>false
 | .block _ b=>cE n b
 | .loop b=>cE n b
 | .scope b=>cE n b
 | _=>true
def pJ (P:Program) (ops:List Oper) (a:Ev.A) (h:Hp) (K:Ev.A->Hp->Prop):Prop:=(∃C a1 h1,bO P C/\iG P C ops a h=some (a1,h1)/\a1.n=a.n/\K a1 h1)\/∃a1 h1,yq P ops.toArray a h a1 h1/\a1.n=a.n/\K a1 h1
def wpc (P:Program):Code->Ev.A->Hp->(Ex->Ev.A->Hp->Prop)->Prop
 | .skip,a,h,Q=>Q .normal a h
 | .label _,a,h,Q=>Q .normal a h
 | .region _ ops false,a,h,Q=>Bj P ops.toList ops.toList a h (Q .normal)
 | .region _ ops true,a,h,Q=>pJ P ops.toList a h (Q .normal)
 | .seq x y,a,h,Q=>wpc P x a h fun e a1 h1=>match e with
   | .normal=>wpc P y a1 h1 Q
   | .exit j=>Q (.exit j) a1 h1
   | .ret=>Q .ret a1 h1
 | .cond x t f,a,h,Q=>opt (a.ev x) fun v=>isB v fun b=>fT b (wpc P t a h Q) (wpc P f a h Q)
 | .block id b,a,h,Q=>wpc P b a h fun e a1 h1=>match e with
   | .normal=>Q .normal a1 h1
   | .exit j=>fT (j==id) (Q .normal a1 h1) (Q (.exit j) a1 h1)
   | .ret=>Q .ret a1 h1
 | .loop b,a,h,Q=>yD P (.loop b) a h Q
 | .scope b,a,h,Q=>wpc P b a h Q
 | .exit id,a,h,Q=>Q (.exit id) a h
 | .ret,a,h,Q=>Q .ret a h
 | _,_,_,_=>False
theorem yE {n:Nat}:∀(c:Code) {a:Ev.A} {h:Hp} {Q:Ex->Ev.A->Hp->Prop},cE n c=true->a.n=n->wpc P c a h Q->yD P c a h Q:=by
 intro c
 induction c with
 | skip=>exact fun _ _ k=>⟨_,_,_,.skip,rfl,k⟩
 | label l=>exact fun _ _ k=>⟨_,_,_,.label,rfl,k⟩
 | region id ops d =>
   intro a h Q hd hn k
   cases d with
   | false =>
     obtain ⟨a1,h1,r,hn1,k1⟩:=vi ops.toList (by simpa[cE] using hd) hn k
     exact ⟨_,_,_,.region r,hn1.trans hn.symm,k1⟩
   | true =>
     rcases k with ⟨C,a1,h1,HC,hs,hn1,k1⟩|⟨a1,h1,hs,hn1,k1⟩
     ·exact ⟨_,_,_,.draw C HC hs,hn1,k1⟩
     ·exact ⟨_,_,_,.draw2 (by simpa using hs),hn1,k1⟩
 | seq x y ihx ihy =>
   intro a h Q hd hn k
   simp only[cE] at hd
   split at hd
   ·rename_i hx
    obtain ⟨e,a1,h1,r,hn1,k1⟩:=ihx hx hn k
    cases e with
    | normal =>
      obtain ⟨e,a2,h2,r2,hn2,k2⟩:=ihy hd (hn1.trans hn) k1
      exact ⟨e,a2,h2,.seqN r r2,hn2.trans hn1,k2⟩
    | exit j=>exact ⟨_,_,_,.seqE r (by simp),hn1,k1⟩
    | ret=>exact ⟨_,_,_,.seqE r (by simp),hn1,k1⟩
   ·cases hd
 | cond x t f iht ihf =>
   intro a h Q hd hn k
   simp only[cE] at hd
   split at hd
   ·rename_i hx
    obtain ⟨v,hb,k⟩:=cX k
    obtain ⟨b,rfl,k1,k2⟩:=yA k
    cases b with
    | true =>
      obtain ⟨e,a1,h1,r,hn1,k3⟩:=iht hx hn (k1 rfl)
      exact ⟨e,a1,h1,.condT hb r,hn1,k3⟩
    | false =>
      obtain ⟨e,a1,h1,r,hn1,k3⟩:=ihf hd hn (k2 rfl)
      exact ⟨e,a1,h1,.condF hb r,hn1,k3⟩
   ·cases hd
 | block id b ih =>
   intro a h Q hd hn k
   obtain ⟨e,a1,h1,r,hn1,k1⟩:=ih (by simpa[cE] using hd) hn k
   cases e with
   | normal=>exact ⟨_,_,_,.blockE r (by simp),hn1,k1⟩
   | exit j =>
     by_cases e:j=id
     ·subst e;exact ⟨_,_,_,.blockX r,hn1,k1.1 (by simp)⟩
     ·exact ⟨_,_,_,.blockE r (by simpa using e),hn1,k1.2 (by simpa using e)⟩
   | ret=>exact ⟨_,_,_,.blockE r (by simp),hn1,k1⟩
 | loop b ih=>exact fun _ _ k=>k
 | scope b ih =>
   intro a h Q hd hn k
   obtain ⟨e,a1,h1,r,hn1,k1⟩:=ih (by simpa[cE] using hd) hn k
   exact ⟨e,a1,h1,.scope r,hn1,k1⟩
 | exit id=>exact fun _ _ k=>⟨_,_,_,.exit,rfl,k⟩
 | ret=>exact fun _ _ k=>⟨_,_,_,.ret,rfl,k⟩
 | _=>exact fun _ _ k=>k.elim
theorem Bl {n:Nat} {b:Code} (hd:cE n b=true) {Q:Ex->Ev.A->Hp->Prop} (I:Nat->Ev.A->Hp->Prop)
  (step:∀m a h,a.n=n->I m a h->wpc P b a h fun e a1 h1=>match e with
   | .normal=>∃m1,m1<m/\I m1 a1 h1
   | .exit j=>Q (.exit j) a1 h1
   | .ret=>Q .ret a1 h1):∀m a h,a.n=n->I m a h->yD P (.loop b) a h Q:=by
 intro m
 induction m using Nat.strongRecOn with
 | _ m ih =>
   intro a h hn hi
   obtain ⟨e,a1,h1,r,hn1,k⟩:=yE b hd hn (step m a h hn hi)
   cases e with
   | normal =>
     obtain ⟨m1,hlt,hi1⟩:=k
     obtain ⟨e,a2,h2,r2,hn2,k2⟩:=ih m1 hlt a1 h1 (hn1.trans hn) hi1
     exact ⟨e,a2,h2,.loopN r r2,hn2.trans hn1,k2⟩
   | exit j=>exact ⟨_,_,_,.loopE r (by simp),hn1,k⟩
   | ret=>exact ⟨_,_,_,.loopE r (by simp),hn1,k⟩
def nav:List Nat->Code->Code
 | [],c=>c
 | k::p,c=>match k,c with
   | 0,.seq x _=>nav p x
   | _,.seq _ y=>nav p y
   | 0,.cond _ x _=>nav p x
   | _,.cond _ _ y=>nav p y
   | _,.block _ b=>nav p b
   | _,.loop b=>nav p b
   | _,.scope b=>nav p b
   | _,c=>c
def aw (f:Func) (p:List Nat):Code:=match f.body with
 | some c=>nav p c
 | none=>.skip
theorem oj:∀(l:List Value) (i:Nat) (t:Tr Value) (k:Nat),(eV l i t).get k=if i<=k then (match l[k - i]? with|some v=>some v|none=>t.get k) else t.get k
 | [],i,t,k=>by simp[eV]
 | v::l,i,t,k=>by
   rw[eV,oj l (i+1) (t.put i v) k,Tr.get_put]
   by_cases h1:i+1<=k
   ·simp only[if_pos h1,if_pos (show i<=k by omega),if_neg (show ¬k=i by omega),show k - i=(k - (i+1))+1 by omega,gC1]
   ·rw[if_neg h1]
    by_cases h2:k=i
    ·subst h2;simp
    ·rw[if_neg h2,if_neg (by omega)]
def jM:List Value->Value
 | [v]=>v
 | vs=>.tuple vs.toArray
theorem pK (W:WfP P) {f:FuncId} {fn:Func} {c:Code} (hf:P.funcs[f]? = some fn) (hb:fn.body=some c) (hname:(fn.name == "runtime.NumGoroutine")=false) {args:List Value} (hlen:Nat.ble args.length fn.ntmps=true)
  {e:Ex} {a1:Ev.A} {h1:Hp} {vs:List Value} (r:ez P c ⟨eV args 0 .lf,fn.ntmps⟩ h e a1 h1) (he:e=.normal\/e=.ret) (hv:cS P h1 a1 fn.results.toList=some vs):Snd P f args h (jM vs) h1:=by
 refine ⟨⟨fn,c,hf,hb,hname⟩,?_⟩
 intro ρ N w args' H hA
 have h1':args.length<=fn.ntmps:=by simpa using hlen
 have A:=ly hA h1'
 refine calls_of_wp hf hb ?_
 refine (pH (N:=N) W r).1 ρ w _ H A _ (fun ρ1 w1 act1 r1 r2 r3 r4 => ?_)
 have key:act1.defers=[]/\∃v',(results fn act1.tmps).run P w1=.ok v' w1/\∃ ρ1 v'',Ending.returned v'=.returned v''/\ρ.le ρ1/\HR P ρ1 N h1 w1/\VR ρ1 (jM vs) v''/\Below N w w1:=by
  refine ⟨r2.defers,?_⟩
  obtain ⟨vs',f1,f2⟩:=gq r3 r2 hv
  have harr:((fn.results.mapM (fun|.tmp t=>pure (act1.tmps.getD t undef)|.cell a t=>do loadVar t (<-asAddr (act1.tmps.getD a undef)):ResultVar->Sem Value))).run P w1=.ok vs'.toArray w1:=by
   rw[Array.mapM_eq_mapM_toList,Sem.run_map]
   erw [f1]
   rfl
  unfold results
  simp only[Sem.run_bind]
  erw [harr]
  simp only[Result.andThen_ok]
  cases f2 with
  | nil=>exact ⟨_,by simp,ρ1,_,rfl,r1,r3,.tuple .nil,r4⟩
  | @cons u u' l l' hu hl2 =>
    cases hl2 with
    | nil=>exact ⟨_,by simp,ρ1,_,rfl,r1,r3,hu,r4⟩
    | @cons u2 u2' l2 l2' hu2 hl3=>exact ⟨.tuple (u'::u2'::l2').toArray,by simp,ρ1,_,rfl,r1,r3,.tuple (.cons hu (.cons hu2 hl3)),r4⟩
 rcases he with rfl|rfl<;>exact key
theorem CU (W:WfP P) {f:FuncId} {fn:Func} {c:Code} (hf:P.funcs[f]? = some fn) (hb:fn.body=some c) (hname:(fn.name == "runtime.NumGoroutine")=false) {n:Nat} (hn:fn.ntmps=n) (hd:cE n c=true) {args:List Value}
  (hlen:Nat.ble args.length n=true) {K:Value->Hp->Prop}
  (k:∀a:Ev.A,a.n=n->(∀t,a.get t=match args[t]? with|some v=>v|none=>ai)->wpc P c a h fun e a1 h1=>match e with
   | .exit _=>False
   | _=>opt (cS P h1 a1 fn.results.toList) fun vs=>K (jM vs) h1):∃v h1,Snd P f args h v h1/\K v h1:=by
 subst hn
 have hg:∀t,(⟨eV args 0 .lf,fn.ntmps⟩:Ev.A).get t=match args[t]? with|some v=>v|none=>ai:=by
  intro t
  simp only[A.get,oj,lZr,if_true,Nat.sub_zero,Tr.get_lf]
  cases args[t]? <;> rfl
 obtain ⟨e,a1,h1,r,_,k1⟩:=yE c hd rfl (k _ rfl hg)
 cases e with
 | exit j=>exact k1.elim
 | normal =>
   obtain ⟨vs,hv,hk⟩:=cX k1
   exact ⟨_,_,pK W hf hb hname hlen r (.inl rfl) hv,hk⟩
 | ret =>
   obtain ⟨vs,hv,hk⟩:=cX k1
   exact ⟨_,_,pK W hf hb hname hlen r (.inr rfl) hv,hk⟩
def ep (P:Program) (all:List Oper):List Oper->Ev.A->Hp->(Ev.A->Prop)->Prop
 | [],a,_,K=>K a
 | o::r,a,h,K=>wif (aW all a o) (opt (aH P h a o.op) fun v=>fT (aB 9 v v) (ep P all r (a.set o.dst v) h K) False) (ep P all r (a.set o.dst ai) h K)
theorem ra {b:Bool} {x:Prop} (k:fT b x False):b=true/\x:=by
 cases b with
 | true=>exact ⟨rfl,k.1 rfl⟩
 | false=>exact (k.2 rfl).elim
theorem lH {all:List Oper} {h:Hp}:∀(r:List Oper) {a:Ev.A} {K:Ev.A->Prop},ep P all r a h K->∃a1,K a1/\∀K':Ev.A->Prop,K' a1->ep P all r a h K'
 | [],a,K,k=>⟨a,k,fun _ k'=>k'⟩
 | o::r,a,K,k=>by
   simp only[ep,wif] at k ⊢
   split at k
   ·rename_i hw
    obtain ⟨v,hv,k⟩:=cX k
    obtain ⟨hs,k⟩:=ra k
    obtain ⟨a1,k1,k2⟩:=lH r k
    exact ⟨a1,k1,fun K' k'=>by rw[hv,su,hs,fU];exact k2 K' k'⟩
   ·rename_i hw
    obtain ⟨a1,k1,k2⟩:=lH r k
    exact ⟨a1,k1,k2⟩
theorem kF {C:bI} {n:Nat} {all:List Oper} {ps:List (List Nat)} {h:Hp} (gs:List (Nat×Hp)) (tl:List Oper):∀(r:List Oper) (i:Nat) {a:Ev.A} {K:Ev.A->Prop},
  (∀k g a op v,i<=k->k<i+r.length->aN P g h a op=some v->aB 9 v v=true->bA P g a op v k ps gs=true) ->
  r.all (fun o=>aP o.op&&dL n o.dst)=true->a.n=n->ep P all r a h K ->
  ∃a1,heaps P C false 0 all i (r++tl) a h=heaps P C false 0 all (i+r.length) tl a1 h/\cN P C false 0 all ps gs i (r++tl) a h=cN P C false 0 all ps gs (i+r.length) tl a1 h/\a1.n=n/\K a1
 | [],i,a,K,_,_,hn,k=>⟨a,rfl,rfl,hn,k⟩
 | o::r,i,a,K,hst,hd,hn,k=>by
   simp only[List.all_cons,Bool.and_eq_true] at hd
   obtain ⟨⟨h1,h2⟩,hd⟩:=hd
   have hr2:am false o.op=true:=by simp only[am,h1]
   have hst':∀k g a op v,i+1<=k->k<i+1+r.length->aN P g h a op=some v->aB 9 v v=true->bA P g a op v k ps gs=true:=fun k g a op v e1 e2=>hst k g a op v (by omega) (by simp only[List.length_cons];omega)
   simp only[ep,wif] at k
   split at k
   ·rename_i hw
    obtain ⟨v,hv,k⟩:=cX k
    obtain ⟨hs,k⟩:=ra k
    have hrd:∀g,aN P g h a o.op=some v:=fun g=>by simp only[aN,h1,hv]
    have hstep:bv P C false all (0+i) o a h=some (a.set o.dst v,h):=by
     simp only[bv,hw,dD,hr2,hrd,nz,A.put_ok v h2 hn]
    obtain ⟨a1,e1,e2,e3,e4⟩:=kF (C:=C) (all:=all) (ps:=ps) gs tl r (i+1) hst' hd ((A.set_n _ _ _).trans hn) k
    have hsb:=hst i (0+i) a o.op v (lRf _) (by simp only[List.length_cons];omega) (hrd _) hs
    refine ⟨a1,?_,?_,e3,e4⟩
    ·simp only[List.cons_append,heaps,hstep,hr2,List.length_cons]
     rw[e1,show i+1+r.length=i+(r.length+1) by omega]
     cases heaps P C false 0 all (i+(r.length+1)) tl a1 h<;>rfl
    ·simp only[List.cons_append,cN,hstep,hr2,hw,List.length_cons]
     rw[hrd]
     simp only[hsb]
     rw[e2,show i+1+r.length=i+(r.length+1) by omega]
   ·rename_i hw
    have hstep:bv P C false all (0+i) o a h=some (a.set o.dst ai,h):=by
     simp only[bv,hw,A.put_ok ai h2 hn]
    obtain ⟨a1,e1,e2,e3,e4⟩:=kF (C:=C) (all:=all) (ps:=ps) gs tl r (i+1) hst' hd ((A.set_n _ _ _).trans hn) k
    refine ⟨a1,?_,?_,e3,e4⟩
    ·simp only[List.cons_append,heaps,hstep,hr2,List.length_cons]
     rw[e1,show i+1+r.length=i+(r.length+1) by omega]
     cases heaps P C false 0 all (i+(r.length+1)) tl a1 h<;>rfl
    ·simp only[List.cons_append,cN,hstep,hr2,hw,List.length_cons]
     rw[e2,show i+1+r.length=i+(r.length+1) by omega]
theorem yF {ops:List Oper} {n:Nat} {a:Ev.A} {h:Hp} {K:Ev.A->Hp->Prop} (hn:a.n=n) (ho:dp false ops=true) (hr:ops.all (fun o=>aP o.op&&dL n o.dst)=true)
  (k:ep P ops ops a h fun a1=>K a1 h):pJ P ops a h K:=by
 have key:=kF (P:=P) (C:=fun _ _ _=>none) (all:=ops) (ps:=dG ops) (h:=h) [(ops.length,h)] [] ops 0 (a:=a) (K:=fun a1=>K a1 h) (by
  intro k g a op v _ _ hv hs
  simp only[bA,hv,hs]
  split
  ·rfl
  ·split<;>rfl) hr hn k
 obtain ⟨a1,e1,e2,e3,e4⟩:=key
 refine .inl ⟨_,a1,h,dz,?_,e3.trans hn.symm,e4⟩
 rw[List.append_nil] at e1 e2
 simp only[heaps,cN,Nat.zero_add] at e1 e2
 simp only[iG,ho,drawn,e1,e2]
def lI (ops:List Oper):Bool:=match dp false ops with
 | true=>(List.range (ops.length - 1)).all fun i=>has (aG (dG ops) (ops.length - 1)) i && !has (aG (dG ops) i) (ops.length - 1)
 | false=>false
theorem yG {ops pre:List Oper} {e:Oper} (hops:ops=pre++[e]) {n:Nat} {a:Ev.A} {h:Hp} {K:Ev.A->Hp->Prop} (hn:a.n=n) (ho:lI ops=true) (hr:pre.all (fun o=>aP o.op&&dL n o.dst)=true)
  (he:(aP e.op==false&&dL n e.dst&&e.guard.isNone)=true) (k:ep P ops pre a h fun a1=>kD P e.op a1 h fun v h1=>K (a1.set e.dst v) h1):pJ P ops a h K:=by
 unfold lI at ho
 split at ho
 ·rename_i hord
  have hlen:ops.length - 1=pre.length:=by rw[hops];simp
  rw[hlen] at ho
  have hall:∀i,i<pre.length->has (aG (dG ops) pre.length) i=true/\has (aG (dG ops) i) pre.length=false:=by
   intro i hi
   have:=List.all_eq_true.1 ho i (List.mem_range.2 hi)
   simpa using this
  simp only[Bool.and_eq_true,beq_iff_eq] at he
  obtain ⟨⟨he1,he2⟩,he3⟩:=he
  obtain ⟨a1,k1,kf⟩:=lH pre k
  obtain ⟨C,v,h2,HC,hv,hk⟩:=oi k1
  have key:=kF (P:=P) (C:=C) (all:=ops) (ps:=dG ops) (h:=h) [(pre.length,h),(pre.length+1,h2)] [e] pre 0 (a:=a) (K:=fun a'=>a'=a1) (by
   intro k g a op v _ hk hv hs
   obtain ⟨q1,q2⟩:=hall k (by omega)
   simp only[bA,hv,hs,q1,q2]) hr hn (kf _ rfl)
  obtain ⟨a2,e1,e2,e3,rfl⟩:=key
  have hw:aW ops a2 e=true:=by
   unfold aW
   cases hg:e.guard with
   | none=>rfl
   | some _=>rw[hg] at he3;cases he3
  have hr2:am false e.op=false:=by simp only[am,he1]
  have hstep:bv P C false ops (0+pre.length) e a2 h=some (a2.set e.dst v,h2):=by
   simp only[bv,hw,dD,hr2,hv,A.put_ok v he2 e3]
  rw[<-hops] at e1 e2
  have e1':heaps P C false 0 ops 0 ops a h=some [(pre.length,h),(pre.length+1,h2)]:=by
   rw[e1]
   simp only[Nat.zero_add,heaps] at hstep ⊢
   simp only[hstep,hr2]
  have e2':cN P C false 0 ops (dG ops) [(pre.length,h),(pre.length+1,h2)] 0 ops a h=some (a2.set e.dst v,h2):=by
   rw[e2]
   simp only[Nat.zero_add,cN] at hstep ⊢
   simp only[hstep,hr2,hw]
  refine .inl ⟨C,a2.set e.dst v,h2,HC,?_,((A.set_n _ _ _).trans e3).trans hn.symm,hk⟩
  simp only[iG,hord,drawn,e1',e2']
 ·cases ho
theorem yH (b o:Nat):aB 9 (.pointer (some ⟨b,o,none⟩)) (.pointer (some ⟨b,o,none⟩))=true:=by simp[aB]
theorem um (b o n c:Nat):aB 9 (.slice (some ⟨b,o,none⟩) n c) (.slice (some ⟨b,o,none⟩) n c)=true:=by simp[aB]
theorem sv (n c:Nat):aB 9 (.slice none n c) (.slice none n c)=true:=by simp[aB]
theorem sA (s:ByteArray):aB 9 (.string s) (.string s)=true:=by simp[aB,ch]
theorem yI (k:IntKind) (n:Int):aB 9 (.int k n) (.int k n)=true:=by cases k<;>simp[aB,fO,da]
theorem wP (b:Bool):aB 9 (.bool b) (.bool b)=true:=by simp[aB]
theorem yJ (b:Nat):aB 9 (.map (some b)) (.map (some b))=true:=by simp[aB]
end
section
variable {P:Program} {h:Hp}
theorem nr {α:Sort _} {a b:α} (h:a=b):a=b:=h
structure Tag {β:Sort _} (x:β):Type where
def Opt {α:Type} (o:Option α) (K:α->Prop) (_:Tag K):Prop:=opt o K
def Wif (b:Bool) (x y:Prop) (_:Tag x) (_:Tag y):Prop:=wif b x y
def jH (b:Bool) (x y:Prop) (_:Tag x) (_:Tag y):Prop:=fT b x y
def iM (c:Option (FuncId×List Value)) (x:FuncId->List Value->Prop) (y:Prop) (_:Tag x) (_:Tag y):Prop:=jL c x y
def IsB (v:Value) (K:Bool->Prop) (_:Tag K):Prop:=isB v K
def Wc (P:Program) (c:Code) (a:Ev.A) (h:Hp) (Q:Ex->Ev.A->Hp->Prop) (_:Tag c) (_:Tag Q):Prop:=wpc P c a h Q
def Ow (P:Program) (all r:List Oper) (a:Ev.A) (h:Hp) (K:Ev.A->Hp->Prop) (_:Tag all) (_:Tag r) (_:Tag K):Prop:=Bj P all r a h K
def Dr (P:Program) (all r:List Oper) (a:Ev.A) (h:Hp) (K:Ev.A->Prop) (_:Tag all) (_:Tag r) (_:Tag K):Prop:=ep P all r a h K
def Dw (P:Program) (ops:List Oper) (a:Ev.A) (h:Hp) (K:Ev.A->Hp->Prop) (_:Tag ops) (_:Tag K):Prop:=pJ P ops a h K
def Th (P:Program) (c:Code) (a:Ev.A) (h:Hp) (Q:Ex->Ev.A->Hp->Prop) (_:Tag c) (_:Tag Q):Prop:=yD P c a h Q
section
theorem xZ {α:Type} (v:α) (K:α->Prop) (t:Tag K):Opt (some v) K t=K v:=nr rfl
theorem nV (x y:Prop) (t:Tag x) (u:Tag y):Wif true x y t u=x:=nr rfl
theorem lD (x y:Prop) (t:Tag x) (u:Tag y):Wif false x y t u=y:=nr rfl
theorem tT (x y:Prop) (t:Tag x) (u:Tag y):jH true x y t u=x:=fU x y
theorem rY (x y:Prop) (t:Tag x) (u:Tag y):jH false x y t u=y:=iS x y
theorem aT {b:Bool} {x y:Prop} {t:Tag x} {u:Tag y} (h1:b=true->x) (h2:b=false->y):jH b x y t u:=yz h1 h2
theorem tU (f:FuncId) (args:List Value) (x:FuncId->List Value->Prop) (y:Prop) (t:Tag x) (u:Tag y):iM (some (f,args)) x y t u=x f args:=nr rfl
theorem tV (x:FuncId->List Value->Prop) (y:Prop) (t:Tag x) (u:Tag y):iM none x y t u=y:=nr rfl
theorem ya (b:Bool) (K:Bool->Prop) (t:Tag K):IsB (.bool b) K t=K b:=nr rfl
theorem AE (a:Ev.A) (h:Hp) (Q:Ex->Ev.A->Hp->Prop) (t:Tag Code.skip) (u:Tag Q):Wc P .skip a h Q t u=Q .normal a h:=nr rfl
theorem ww (id:Nat) (ops:List Oper) (a:Ev.A) (h:Hp) (Q:Ex->Ev.A->Hp->Prop) (t:Tag (Code.region id ops.toArray false)) (u:Tag Q):Wc P (.region id ops.toArray false) a h Q t u=Ow P ops ops a h (Q .normal) ⟨⟩ ⟨⟩ ⟨⟩:=nr rfl
theorem AF (id:Nat) (ops:List Oper) (a:Ev.A) (h:Hp) (Q:Ex->Ev.A->Hp->Prop) (t:Tag (Code.region id ops.toArray true)) (u:Tag Q):Wc P (.region id ops.toArray true) a h Q t u=Dw P ops a h (Q .normal) ⟨⟩ ⟨⟩:=nr rfl
theorem CB (x y:Code) (a:Ev.A) (h:Hp) (Q:Ex->Ev.A->Hp->Prop) (t:Tag (x.seq y)) (u:Tag Q):Wc P (.seq x y) a h Q t u=Wc P x a h (fun e a1 h1=>match e with
 | .normal=>Wc P y a1 h1 Q ⟨⟩ ⟨⟩
 | .exit j=>Q (.exit j) a1 h1
 | .ret=>Q .ret a1 h1) ⟨⟩ ⟨⟩:=nr rfl
theorem AG (x:Operand) (t f:Code) (a:Ev.A) (h:Hp) (Q:Ex->Ev.A->Hp->Prop) (p:Tag (Code.cond x t f)) (u:Tag Q):Wc P (.cond x t f) a h Q p u=Opt (a.ev x) (fun v=>IsB v (fun b=>jH b (Wc P t a h Q ⟨⟩ ⟨⟩) (Wc P f a h Q ⟨⟩ ⟨⟩) ⟨⟩ ⟨⟩) ⟨⟩) ⟨⟩:=nr rfl
theorem yb (id:Nat) (b:Code) (a:Ev.A) (h:Hp) (Q:Ex->Ev.A->Hp->Prop) (t:Tag (Code.block id b)) (u:Tag Q):Wc P (.block id b) a h Q t u=Wc P b a h (fun e a1 h1=>match e with
 | .normal=>Q .normal a1 h1
 | .exit j=>jH (j==id) (Q .normal a1 h1) (Q (.exit j) a1 h1) ⟨⟩ ⟨⟩
 | .ret=>Q .ret a1 h1) ⟨⟩ ⟨⟩:=nr rfl
theorem AH (b:Code) (a:Ev.A) (h:Hp) (Q:Ex->Ev.A->Hp->Prop) (t:Tag b.loop) (u:Tag Q):Wc P (.loop b) a h Q t u=Th P (.loop b) a h Q ⟨⟩ ⟨⟩:=nr rfl
theorem yd (b:Code) (a:Ev.A) (h:Hp) (Q:Ex->Ev.A->Hp->Prop) (t:Tag b.scope) (u:Tag Q):Wc P (.scope b) a h Q t u=Wc P b a h Q ⟨⟩ ⟨⟩:=nr rfl
theorem AI (id:Nat) (a:Ev.A) (h:Hp) (Q:Ex->Ev.A->Hp->Prop) (t:Tag (Code.exit id)) (u:Tag Q):Wc P (.exit id) a h Q t u=Q (.exit id) a h:=nr rfl
theorem CC (a:Ev.A) (h:Hp) (Q:Ex->Ev.A->Hp->Prop) (t:Tag Code.ret) (u:Tag Q):Wc P .ret a h Q t u=Q .ret a h:=nr rfl
theorem CD (all:List Oper) (a:Ev.A) (h:Hp) (K:Ev.A->Hp->Prop) (t:Tag all) (s:Tag ([]:List Oper)) (u:Tag K):Ow P all [] a h K t s u=K a h:=nr rfl
theorem AJ (all:List Oper) (o:Oper) (r:List Oper) (a:Ev.A) (h:Hp) (K:Ev.A->Hp->Prop) (t:Tag all) (s:Tag (o::r)) (u:Tag K):Ow P all (o::r) a h K t s u =
 Wif (aW all a o) (Wif (aP o.op) (Opt (aH P h a o.op) (fun v=>Ow P all r (a.set o.dst v) h K ⟨⟩ ⟨⟩ ⟨⟩) ⟨⟩)
  (iM (cR a o.op) (fun f args=>∃v h1,Snd P f args h v h1/\Ow P all r (a.set o.dst v) h1 K ⟨⟩ ⟨⟩ ⟨⟩) (Opt (cq P h a o.op) (fun p=>Ow P all r (a.set o.dst p.1) p.2 K ⟨⟩ ⟨⟩ ⟨⟩) ⟨⟩) ⟨⟩ ⟨⟩) ⟨⟩ ⟨⟩)
  (Ow P all r (a.set o.dst ai) h K ⟨⟩ ⟨⟩ ⟨⟩) ⟨⟩ ⟨⟩:=nr rfl
theorem CE (all:List Oper) (a:Ev.A) (h:Hp) (K:Ev.A->Prop) (t:Tag all) (s:Tag ([]:List Oper)) (u:Tag K):Dr P all [] a h K t s u=K a:=nr rfl
theorem AK (all:List Oper) (o:Oper) (r:List Oper) (a:Ev.A) (h:Hp) (K:Ev.A->Prop) (t:Tag all) (s:Tag (o::r)) (u:Tag K):Dr P all (o::r) a h K t s u =
  Wif (aW all a o) (Opt (aH P h a o.op) (fun v=>Wif (aB 9 v v) (Dr P all r (a.set o.dst v) h K ⟨⟩ ⟨⟩ ⟨⟩) False ⟨⟩ ⟨⟩) ⟨⟩) (Dr P all r (a.set o.dst ai) h K ⟨⟩ ⟨⟩ ⟨⟩) ⟨⟩ ⟨⟩:=by
 show ep P all (o::r) a h K=_
 simp only[ep]
 have:(fun v=>fT (aB 9 v v) (ep P all r (a.set o.dst v) h K) False)=fun v=>Wif (aB 9 v v) (Dr P all r (a.set o.dst v) h K ⟨⟩ ⟨⟩ ⟨⟩) False ⟨⟩ ⟨⟩:=by
  funext v
  cases aB 9 v v with
  | true=>rw[fU,nV];rfl
  | false=>rw[iS,lD]
 rw[this]
 rfl
theorem Cc {c:Code} {a:Ev.A} {h:Hp} {Q:Ex->Ev.A->Hp->Prop} (k:Wc P c a h Q ⟨⟩ ⟨⟩):wpc P c a h Q:=k
theorem iN {ops:List Oper} {n:Nat} {a:Ev.A} {h:Hp} {K:Ev.A->Hp->Prop} {t:Tag ops} {u:Tag K} (hn:a.n=n) (ho:dp false ops=true) (hr:ops.all (fun o=>aP o.op&&dL n o.dst)=true)
 (k:Dr P ops ops a h (fun a1=>K a1 h) ⟨⟩ ⟨⟩ ⟨⟩):Dw P ops a h K t u:=yF hn ho hr k
def Dl (P:Program) (all:List Oper):List Oper->Ev.A->Hp->(Ev.A->Hp->Prop)->Prop
 | [],_,_,_=>False
 | e::r,a,h,K=>match r with
   | []=>kD P e.op a h fun v h1=>K (a.set e.dst v) h1
   | o::l=>wif (aW all a e) (opt (aH P h a e.op) fun v=>fT (aB 9 v v) (Dl P all (o::l) (a.set e.dst v) h K) False) (Dl P all (o::l) (a.set e.dst ai) h K)
theorem ye {all:List Oper}:∀(r:List Oper) {a:Ev.A} {h:Hp} {K:Ev.A->Hp->Prop},Dl P all r a h K->∃e,r=r.dropLast++[e]/\r.getLast? = some e/\ep P all r.dropLast a h fun a1=>kD P e.op a1 h fun v h1=>K (a1.set e.dst v) h1
 | [],a,h,K,k=>k.elim
 | [e],a,h,K,k=>⟨e,rfl,rfl,k⟩
 | e::o::l,a,h,K,k=>by
   simp only[Dl,wif] at k
   split at k
   ·rename_i hw
    obtain ⟨v,hv,k⟩:=cX k
    obtain ⟨hs,k⟩:=ra k
    obtain ⟨x,h1,h2,h3⟩:=ye (o::l) k
    refine ⟨x,by simpa using h1,by simpa using h2,?_⟩
    simp only[List.dropLast_cons_of_ne_nil (show o::l≠[] by simp),ep,hw,wif,hv,su,hs,fU]
    exact h3
   ·rename_i hw
    obtain ⟨x,h1,h2,h3⟩:=ye (o::l) k
    refine ⟨x,by simpa using h1,by simpa using h2,?_⟩
    simp only[List.dropLast_cons_of_ne_nil (show o::l≠[] by simp),ep,hw,wif]
    exact h3
def DL (P:Program) (all r:List Oper) (a:Ev.A) (h:Hp) (K:Ev.A->Hp->Prop) (_:Tag all) (_:Tag r) (_:Tag K):Prop:=Dl P all r a h K
theorem CF (all:List Oper) (e:Oper) (a:Ev.A) (h:Hp) (K:Ev.A->Hp->Prop) (t:Tag all) (s:Tag [e]) (u:Tag K):DL P all [e] a h K t s u=Wif (aP e.op) (Opt (aH P h a e.op) (fun v=>K (a.set e.dst v) h) ⟨⟩)
 (iM (cR a e.op) (fun f args=>∃v h1,Snd P f args h v h1/\K (a.set e.dst v) h1) (Opt (cq P h a e.op) (fun p=>K (a.set e.dst p.1) p.2) ⟨⟩) ⟨⟩ ⟨⟩) ⟨⟩ ⟨⟩:=nr rfl
theorem AL (all:List Oper) (e o:Oper) (l:List Oper) (a:Ev.A) (h:Hp) (K:Ev.A->Hp->Prop) (t:Tag all) (s:Tag (e::o::l)) (u:Tag K):DL P all (e::o::l) a h K t s u =
  Wif (aW all a e) (Opt (aH P h a e.op) (fun v=>Wif (aB 9 v v) (DL P all (o::l) (a.set e.dst v) h K ⟨⟩ ⟨⟩ ⟨⟩) False ⟨⟩ ⟨⟩) ⟨⟩) (DL P all (o::l) (a.set e.dst ai) h K ⟨⟩ ⟨⟩ ⟨⟩) ⟨⟩ ⟨⟩:=by
 show Dl P all (e::o::l) a h K=_
 simp only[Dl]
 have:(fun v=>fT (aB 9 v v) (Dl P all (o::l) (a.set e.dst v) h K) False)=fun v=>Wif (aB 9 v v) (DL P all (o::l) (a.set e.dst v) h K ⟨⟩ ⟨⟩ ⟨⟩) False ⟨⟩ ⟨⟩:=by
  funext v
  cases aB 9 v v with
  | true=>rw[fU,nV];rfl
  | false=>rw[iS,lD]
 rw[this]
 rfl
def rZ (n:Nat) (ops:List Oper):Bool:=match lI ops,ops.dropLast.all (fun o=>aP o.op&&dL n o.dst),ops.getLast? with
 | true,true,some e=>aP e.op==false&&dL n e.dst&&e.guard.isNone
 | _,_,_=>false
theorem qV {ops:List Oper} {n:Nat} {a:Ev.A} {h:Hp} {K:Ev.A->Hp->Prop} {t:Tag ops} {u:Tag K} (hn:a.n=n) (ho:rZ n ops=true) (k:DL P ops ops a h K ⟨⟩ ⟨⟩ ⟨⟩):Dw P ops a h K t u:=by
 obtain ⟨e,h1,h2,h3⟩:=ye ops k
 unfold rZ at ho
 rw[h2] at ho
 split at ho
 ·rename_i e' q1 q2 q3
  injection q3 with q3
  subst q3
  exact yG h1 hn q1 q2 ho h3
 ·cases ho
end
theorem au {n:Nat} {b:Code} (hd:cE n b=true) {Q:Ex->Ev.A->Hp->Prop} {t:Tag b.loop} {u:Tag Q} (I:Nat->Ev.A->Hp->Prop)
  (step:∀m a h,a.n=n->I m a h->Wc P b a h (fun e a1 h1=>match e with
   | .normal=>∃m1,m1<m/\I m1 a1 h1
   | .exit j=>Q (.exit j) a1 h1
   | .ret=>Q .ret a1 h1) ⟨⟩ ⟨⟩) (m:Nat) (a:Ev.A) (h:Hp) (hn:a.n=n) (hi:I m a h):Th P (.loop b) a h Q t u :=
 Bl hd I (fun m a h hn hi=>Cc (step m a h hn hi)) m a h hn hi
theorem aL (W:WfP P) {f:FuncId} {fn:Func} {c:Code} (hf:P.funcs[f]? = some fn) (hb:fn.body=some c) (hname:(fn.name == "runtime.NumGoroutine")=false) {n:Nat} (hn:fn.ntmps=n) (hd:cE n c=true) {args:List Value}
  (hlen:Nat.ble args.length n=true) {K:Value->Hp->Prop}
  (k:∀a:Ev.A,a.n=n->(∀t,a.get t=match args[t]? with|some v=>v|none=>ai)->Wc P c a h (fun e a1 h1=>match e with
   | .exit _=>False
   | _=>Opt (cS P h1 a1 fn.results.toList) (fun vs=>K (jM vs) h1) ⟨⟩) ⟨⟩ ⟨⟩):∃v h1,Snd P f args h v h1/\K v h1 :=
 CU W hf hb hname hn hd hlen (fun a hn hg=>Cc (k a hn hg))
attribute [irreducible] Opt Wif jH iM IsB Wc Ow Dr Dw DL Th
end
section
variable {P:Program} {h:Hp}
theorem cU (k:IntKind):fO k k=true:=by cases k<;>rfl
theorem lF (a b:Int):gr a b=decide (a=b):=by rw[da,Bool.eq_iff_iff];simp
theorem iR (a b:List UInt8):eC a b=decide (a=b):=by rw[ch,Bool.eq_iff_iff];simp
section
variable {t:TypeId} {x y:Operand} {k:IntKind} {a b:Int} {s u:ByteArray}
theorem AZ:be P h .add t x y (.int k a) (.int k b)=some (.int k (k.wrap (a+b))):=by simp[be,cU,iB]
theorem A5:be P h .sub t x y (.int k a) (.int k b)=some (.int k (k.wrap (a - b))):=by simp[be,cU,iB]
theorem A6:be P h .mul t x y (.int k a) (.int k b)=some (.int k (k.wrap (a*b))):=by simp[be,cU,iB]
theorem A7:be P h .eql t x y (.int k a) (.int k b)=some (.bool (decide (a=b))):=by simp[be,cU,iB,lF]
theorem Ba:be P h .neq t x y (.int k a) (.int k b)=some (.bool (!decide (a=b))):=by simp[be,cU,iB,lF]
theorem Bb:be P h .lss t x y (.int k a) (.int k b)=some (.bool (decide (a<b))):=by simp[be,cU,iB,dH]
theorem Bc:be P h .leq t x y (.int k a) (.int k b)=some (.bool (decide (a<=b))):=by simp[be,cU,iB,kx]
theorem Bd:be P h .gtr t x y (.int k a) (.int k b)=some (.bool (decide (b<a))):=by simp[be,cU,iB,dH]
theorem Be:be P h .geq t x y (.int k a) (.int k b)=some (.bool (decide (b<=a))):=by simp[be,cU,iB,kx]
theorem Bf:be P h .eql t x y (.string s) (.string u)=some (.bool (decide (s.data.toList=u.data.toList))):=by simp[be,nt,iR]
theorem Bg:be P h .neq t x y (.string s) (.string u)=some (.bool (!decide (s.data.toList=u.data.toList))):=by simp[be,nt,iR]
theorem Bh (hl:s.data.toList.length+u.data.toList.length<=1000000000):be P h .add t x y (.string s) (.string u)=some (.string ⟨(s.data.toList++u.data.toList).toArray⟩):=by
 have:Nat.ble (s.data.toList.length+u.data.toList.length) 1000000000=true:=by simpa using hl
 simp only[be,nt,this]
theorem Bi:be P h .lss t x y (.string s) (.string u)=some (.bool (dQ s.data.toList u.data.toList)):=by simp[be,nt]
theorem CR {c:Bool}:u9 .not (.bool c)=some (.bool (!c)):=rfl
theorem CS:u9 .neg (.int k a)=some (.int k (k.wrap (0 - a))):=rfl
end
theorem eh {t:TypeId} {fs:Array Field} {s:Nat} (hu:P.underlying t=some (.struct fs)) (hs:aA P t=some s) (h:Hp) (a:Addr) :
  aV P h t a=match h.loads a s with|some l=>some (.agg l.toArray)|none=>none:=by
 unfold aV
 rw[hu]
 unfold aA at hs
 split at hs
 ·rename_i i hi
  injection hs with hs
  simp only[hs]
  cases h.loads a s<;>rfl
 ·cases hs
def so:TypeDesc->Bool
 | .struct _=>false
 | .array _ _=>false
 | _=>true
theorem bQ {t:TypeId} {d:TypeDesc} (hu:P.underlying t=some d) (hd:so d=true) (h:Hp) (a:Addr):aV P h t a=h.load a:=by
 unfold aV
 rw[hu]
 cases d<;>simp_all [so]
theorem bH {t:TypeId} {s:Nat} (hs:aA P t=some s) (h:Hp) (a:Addr) (v:Value):bc P h t a v=match Nat.beq v.cells.toList.length s with|true=>h.stores a v.cells.toList|false=>none:=by
 unfold bc
 unfold aA at hs
 split at hs
 ·rename_i i hi
  injection hs with hs
  simp only[hs]
  cases Nat.beq v.cells.toList.length s<;>rfl
 ·cases hs
theorem j6 (b o n:Nat):(⟨b,o,none⟩:Addr).add n=⟨b,o+n,none⟩:=by
 unfold Addr.add
 split<;>simp_all
theorem aM {t:TypeId} {fs:Array Field} {k:Nat} (ft off:Nat) {s:Nat} (hu:P.underlying t=some (.struct fs)) (hf:(fs.toList[k]?).map (fun f=>(f.type,f.offset))=some (ft,off)) (hs:aA P ft=some (s+1)) (b o:Nat) :
  aI P t (.pointer (some ⟨b,o,none⟩)) k=some (.pointer (some ⟨b,o+off,none⟩)):=by
 cases hk:fs.toList[k]? with
 | none=>rw[hk] at hf;cases hf
 | some f =>
   rw[hk] at hf
   simp only[Option.map_some,Option.some.injEq,Prod.mk.injEq] at hf
   simp only[aI,hu,hk,hf.1,hs,hf.2]
   rw[j6]
theorem cA {t e:TypeId} {s:Nat} (hu:P.underlying t=some (.slice e)) (hs:aA P e=some s) {b o n c:Nat} {k:IntKind} {i:Nat} (hi:i<n) :
  ap P t (.slice (some ⟨b,o,none⟩) n c) (.int k (i:Int))=some (.pointer (some ⟨b,o+i*s,none⟩)):=by
 have:Nat.blt i n=true:=by simpa using hi
 have e:gG (.int k (i:Int))=some i:=rfl
 simp only[ap,hu,e,this,hs]
 rw[j6]
theorem dA {t e:TypeId} (hu:P.underlying t=some (.slice e)) (h:Hp) (b:Option Addr) (n c:Nat) (r:List TypeId):iE P h (t::r) [.slice b n c]=some (.int .i64 n):=by
 simp only[iE,hu]
theorem uf {t:TypeId} (hu:P.underlying t=some .string) (h:Hp) (s:ByteArray) (r:List TypeId):iE P h (t::r) [.string s]=some (.int .i64 s.data.toList.length):=by
 simp only[iE,hu]
def bg (P:Program) (fs:List Field) (i:Nat):Option (Nat×Nat):=match fs[i]? with
 | some f=>match aA P f.type with
   | some s=>some (f.offset,s)
   | none=>none
 | none=>none
theorem fj {t:TypeId} {z:List Value} {fs:Array Field} {tab:List (Nat×Nat)} (hz:bE P t=some (.agg z.toArray)) (hu:P.underlying t=some (.struct fs)) (hall:fs.toList.all (fun f=>(P.info? f.type).isSome)=true)
  (htab:∀i,bg P fs.toList i=tab[i]?) (ps:List (Nat×Value)) :
  d3 P t ps=match cM (fun i=>tab[i]?) z ps with|some c=>some (.agg c.toArray)|none=>none:=by
 have h0:d3 P t ps=match cM (bg P fs.toList) z ps with|some c=>some (.agg c.toArray)|none=>none:=by
  unfold d3
  rw[hz]
  simp only[hu,hall,Value.cells,List.toList_toArray]
  cases h:cM (bg P fs.toList) z ps<;>(erw [h])
 rw[h0,show bg P fs.toList=fun i=>tab[i]? from funext htab]
theorem cV {t e:TypeId} {s n:Nat} {zv:Value} {z:List Value} (hu:P.underlying t=some (.slice e)) (hs:aA P e=some s) (hz:bE P e=some zv) (hc:zv.cells.toList=z) (hp:Nat.beq z.length s=true/\0<s) (hn:n*s<=100000) (ps:List (Nat×Value)) :
  aY P t n ps=match cM (fun i=>some (i*s,s)) (aC z n) ps with
   | some c=>some (.cells ⟨c,e,0,0,false⟩,fun b=>.slice (some ⟨b,0,none⟩) n n)
   | none=>none:=by
 have h1:Nat.blt 0 s=true:=by simpa using hp.2
 have h2:Nat.ble (n*s) 100000=true:=by simpa using hn
 simp only[aY,hu,hs,hz,hc,hp.1,h1,h2]
 cases cM (fun i=>some (i*s,s)) (aC z n) ps<;>rfl
theorem j7 {t e:TypeId} {s l c:Nat} {zv:Value} {z:List Value} (hu:P.underlying t=some (.slice e)) (hs:aA P e=some s) (hz:bE P e=some zv) (hcz:zv.cells.toList=z) (hp:Nat.beq z.length s=true/\0<s)
  (hby:(match P.info? e with|some i=>Nat.ble (100000*i.bytes) 100000000|none=>false)=true) (hl:l<=c) (hc:c*s<=100000) :
  fh P t (.int .i64 (l:Int)) (.int .i64 (c:Int))=some (.cells ⟨aC z c,e,0,0,false⟩,fun b=>.slice (some ⟨b,0,none⟩) l c):=by
 have h1:Nat.blt 0 s=true:=by simpa using hp.2
 have h2:Nat.ble (c*s) 100000=true:=by simpa using hc
 have h3:Nat.ble l c=true:=by simpa using hl
 have hc1:c<=100000:=lTr (Nat.le_mul_of_pos_right c hp.2) hc
 have h4:Nat.ble c 100000=true:=by simpa using hc1
 have e1:gG (.int .i64 (l:Int))=some l:=rfl
 have e2:gG (.int .i64 (c:Int))=some c:=rfl
 cases hi:P.info? e with
 | none=>rw[hi] at hby;cases hby
 | some i =>
   rw[hi] at hby
   have hsz:i.size=s:=by unfold aA at hs;rw[hi] at hs;injection hs
   have h5:Nat.ble (c*i.bytes) 100000000=true:=by
    have hb:100000*i.bytes<=100000000:=by simpa using hby
    have:c*i.bytes<=100000*i.bytes:=Nat.mul_le_mul_right _ hc1
    simp
    omega
   simp only[fh,hu,e1,e2,hi,hz,hcz,hsz,hp.1,h1,h2,h3,h4,h5]
def Hp.newH (h:Hp) (o:ak):Hp:={ h with objs:=h.objs.put h.next o,next:=h.next+1 }
theorem lG (h:Hp) (o:ak):h.new o=some (h.next,h.newH o):=rfl
theorem cW (h:Hp) (o:ak) (b:Nat):(h.newH o).objs.get b=if b=h.next then some o else h.objs.get b:=Tr.get_put _ _ _ _
theorem bJ (h:Hp) (c:Nat) (o:ak) (b:Nat):(h.put c o).objs.get b=if b=c then some o else h.objs.get b:=Tr.get_put _ _ _ _
theorem bu (h:Hp) (o:ak):(h.newH o).next=h.next+1:=rfl
def Hp.own (h:Hp) (b:Nat) (e:TypeId) (c:List Value):Prop:=h.base<=b/\b<h.next/\h.objs.get b=some (.cells ⟨c,e,0,0,false⟩)
theorem dU {a b:Nat} (h:b<=a):Nat.blt a b=false:=by
 cases e:Nat.blt a b with
 | false=>rfl
 | true =>
   have:a<b:=by simpa using e
   omega
theorem og {a b:Nat} (h:a<b):Nat.blt a b=true:=by simpa using h
theorem mV {b:Nat} {e:TypeId} {c:List Value} (k:h.own b e c):h.row b=some ⟨c,e,0,0,false⟩:=by simp only[Hp.row,k.2.2]
theorem aa {b o:Nat} {e:TypeId} {c:List Value} (k:h.own b e c):h.load ⟨b,o,none⟩=c[o]? := by
 simp only[Hp.load,dU k.1,mV k]
theorem af {b o n:Nat} {e:TypeId} {c:List Value} (k:h.own b e c):h.loads ⟨b,o,none⟩ n=bU (c.drop o) n:=by
 cases n with
 | zero=>simp[Hp.loads,bU]
 | succ n=>simp only[Hp.loads,dU k.1,mV k]
theorem aE {b o:Nat} {e:TypeId} {c vs c1:List Value} (k:h.own b e c) (h1:vs.all oneCell=true) (h2:bC c o vs=some c1) (h3:vs≠[]) :
  h.stores ⟨b,o,none⟩ vs=some (h.put b (.cells ⟨c1,e,0,0,false⟩)):=by
 cases vs with
 | nil=>exact absurd rfl h3
 | cons v vs=>simp only[Hp.stores,h1,mV k,h2]
theorem an (hb:h.base<=h.next) (e:TypeId) (c:List Value):(h.newH (.cells ⟨c,e,0,0,false⟩)).own h.next e c :=
 ⟨hb,lSs _,by rw[cW,if_pos rfl]⟩
theorem db {b:Nat} {e:TypeId} {c:List Value} (k:h.own b e c) (o:ak):(h.newH o).own b e c :=
 ⟨k.1,Nat.lt_succ_of_lt k.2.1,by rw[cW,if_neg (Nat.ne_of_lt k.2.1)];exact k.2.2⟩
theorem dV {b:Nat} {e:TypeId} {c:List Value} (k:h.own b e c) {d:Nat} (hd:b≠d) (o:ak):(h.put d o).own b e c :=
 ⟨k.1,k.2.1,by rw[bJ,if_neg hd];exact k.2.2⟩
theorem av {b:Nat} {e:TypeId} {c:List Value} (k:h.own b e c) (c1:List Value):(h.put b (.cells ⟨c1,e,0,0,false⟩)).own b e c1 :=
 ⟨k.1,k.2.1,by rw[bJ,if_pos rfl]⟩
structure Ext (h h1:Hp):Prop where
 base:h1.base=h.base
 ro:h1.ro=h.ro
 next:h.next<=h1.next
 objs:∀b,b<h.next->h1.objs.get b=h.objs.get b
 nfam:h.nfam<=h1.nfam
 fams:∀f,f<h.nfam->h1.fams.get f=h.fams.get f
theorem Ext.refl (h:Hp):Ext h h:=⟨rfl,rfl,lRf _,fun _ _=>rfl,lRf _,fun _ _=>rfl⟩
theorem Ext.trans {a b c:Hp} (h:Ext a b) (k:Ext b c):Ext a c :=
 ⟨k.base.trans h.base,k.ro.trans h.ro,lTr h.next k.next,fun b hb=>(k.objs b (lTl hb h.next)).trans (h.objs b hb),lTr h.nfam k.nfam,fun f hf=>(k.fams f (lTl hf h.nfam)).trans (h.fams f hf)⟩
theorem Ext.new (h:Hp) (o:ak):Ext h (h.newH o):=⟨rfl,rfl,Nat.le_succ _,fun b hb=>by rw[cW,if_neg (Nat.ne_of_lt hb)],lRf _,fun _ _=>rfl⟩
theorem Ext.put {h h1:Hp} (k:Ext h h1) {b:Nat} (hb:h.next<=b) (o:ak):Ext h (h1.put b o) :=
 ⟨k.base,k.ro,k.next,fun d hd=>by rw[bJ,if_neg (by omega)];exact k.objs d hd,k.nfam,k.fams⟩
theorem aj {h1:Hp} (x:Ext h h1) {b:Nat} {e:TypeId} {c:List Value} (k:h.own b e c):h1.own b e c :=
 ⟨by rw[x.base];exact k.1,lTl k.2.1 x.next,by rw[x.objs b k.2.1];exact k.2.2⟩
structure ExtS (S:Nat->Prop) (h h1:Hp):Prop where
 base:h1.base=h.base
 ro:h1.ro=h.ro
 next:h.next<=h1.next
 objs:∀b,b<h.next->¬S b->h1.objs.get b=h.objs.get b
 nfam:h.nfam<=h1.nfam
 fams:∀f,f<h.nfam->h1.fams.get f=h.fams.get f
variable {S:Nat->Prop}
theorem Ext.toS {h h1:Hp} (x:Ext h h1):ExtS S h h1:=⟨x.base,x.ro,x.next,fun b hb _=>x.objs b hb,x.nfam,x.fams⟩
theorem ExtS.trans {a b c:Hp} (h:ExtS S a b) (k:ExtS S b c):ExtS S a c :=
 ⟨k.base.trans h.base,k.ro.trans h.ro,lTr h.next k.next,fun b hb hs=>(k.objs b (lTl hb h.next) hs).trans (h.objs b hb hs),lTr h.nfam k.nfam,fun f hf=>(k.fams f (lTl hf h.nfam)).trans (h.fams f hf)⟩
theorem ExtS.put {h h1:Hp} (k:ExtS S h h1) {b:Nat} (hb:h.next<=b\/S b) (o:ak):ExtS S h (h1.put b o) :=
 ⟨k.base,k.ro,k.next,fun d hd hs=>by
  rw[bJ,if_neg (by
   intro e;subst e
   rcases hb with hb|hb
   ·omega
   ·exact hs hb)]
  exact k.objs d hd hs,k.nfam,k.fams⟩
theorem ExtS.ext {h h1:Hp} (x:ExtS S h h1) (hS:∀b,b<h.next->¬S b):Ext h h1:=⟨x.base,x.ro,x.next,fun b hb=>x.objs b hb (hS b hb),x.nfam,x.fams⟩
theorem ExtS.mono {T:Nat->Prop} {h h1:Hp} (x:ExtS S h h1) (hS:∀b,b<h.next->S b->T b):ExtS T h h1:=⟨x.base,x.ro,x.next,fun b hb ht=>x.objs b hb (fun hs=>ht (hS b hb hs)),x.nfam,x.fams⟩
theorem aJ {h1:Hp} (x:ExtS S h h1) {b:Nat} {e:TypeId} {c:List Value} (k:h.own b e c) (hS:¬S b):h1.own b e c :=
 ⟨by rw[x.base];exact k.1,lTl k.2.1 x.next,by rw[x.objs b k.2.1 hS];exact k.2.2⟩
structure Ro where
 b:Nat
 f:Nat->Nat->Option Value
def Hp.rom (h:Hp):Ro:=⟨h.base,h.ro⟩
theorem ExtS.rom {h h1:Hp} (x:ExtS S h h1):h1.rom=h.rom:=by simp only[Hp.rom,x.base,x.ro]
theorem Ext.rom {h h1:Hp} (x:Ext h h1):h1.rom=h.rom:=by simp only[Hp.rom,x.base,x.ro]
def fS (r:Ro) (b o:Nat) (cs:List Value):Prop:=b<r.b/\∀j v,cs[j]? = some v->r.f b (o+j)=some v
theorem ky {r:Ro} (hr:h.rom=r) {b o j:Nat} {cs:List Value} (k:fS r b o cs) {v:Value} (hj:cs[j]? = some v):h.load ⟨b,o+j,none⟩=some v:=by
 subst hr
 have k1:b<h.base:=k.1
 have k2:h.ro b (o+j)=some v:=k.2 j v hj
 simp only[Hp.load,og k1,k2]
theorem pI {f:Nat->Option Value}:∀(cs:List Value) (o:Nat),(∀j v,cs[j]? = some v->f (o+j)=some v)->jU f o cs.length=some cs
 | [],_,_=>rfl
 | c::cs,o,hf=>by
   have h0:=hf 0 c rfl
   simp only[Nat.add_zero] at h0
   have hr:=pI cs (o+1) (fun j v hj=>by rw[show o+1+j=o+(j+1) by omega];exact hf (j+1) v (by simpa using hj))
   simp only[List.length_cons,jU,h0,hr]
theorem az {r:Ro} (hr:h.rom=r) {b o n:Nat} {cs:List Value} (k:fS r b o cs) (hn:cs.length=n):h.loads ⟨b,o,none⟩ n=some cs:=by
 subst hr
 subst hn
 have k1:b<h.base:=k.1
 cases cs with
 | nil=>rfl
 | cons c cs=>exact (by simp only[List.length_cons,Hp.loads,og k1];exact pI (c::cs) o k.2)
def Hp.var (h:Hp) (e:TypeId) (c0 c1:List Value):Hp:=(h.newH (.cells ⟨c0,e,0,0,false⟩)).put h.next (.cells ⟨c1,e,0,0,false⟩)
theorem gE {h:Hp} (hb:h.base<=h.next) {e:TypeId} {c0 c1:List Value} (hs:bC c0 0 c1=some c1) (h1:c1.all oneCell=true) (hne:c1≠[]) :
  (h.newH (.cells ⟨c0,e,0,0,false⟩)).stores ⟨h.next,0,none⟩ c1=some (h.var e c0 c1)/\(h.var e c0 c1).own h.next e c1/\Ext h (h.var e c0 c1)/\(h.var e c0 c1).base<=(h.var e c0 c1).next/\(h.var e c0 c1).rom=h.rom :=
 ⟨aE (an hb e c0) h1 hs hne,av (an hb e c0) c1,(Ext.new h _).put (lRf _) _,Nat.le_succ_of_le hb,rfl⟩
theorem wI (v:Value):jM [v]=v:=rfl
theorem wJ:jM []=.tuple #[]:=rfl
theorem ug (v u:Value) (l:List Value):jM (v::u::l)=.tuple (v::u::l).toArray:=rfl
theorem dq {n:Nat} (h:n<9223372036854775808):IntKind.i64.wrap (n:Int)=(n:Int):=by
 rw[IntKind.wrap_i64];omega
theorem ah {n m:Nat} (h:n<m) (hm:m<=9223372036854775807):IntKind.i64.wrap ((n:Int)+1)=((n+1:Nat):Int):=by
 rw[IntKind.wrap_i64];omega
theorem dW (n:Nat):Nat.beq n n=true:=by simp
attribute [go_sem] xZ nV lD tT rY tU tV ya AE ww AF CB AG yb AH yd AI CC CD AJ CE AK CF AL Nat.reduceBEq aP aW cR aH cq dC A.ev A.get_set A.get_set_none A.set_n lG plain Value.cells evList va wI wJ ug cS km bU List.drop_zero List.drop_succ_cons
 AZ A5 A6 A7 Ba Bb Bc Bd Be Bf Bg CR CS Nat.reduceEqDiff reduceIte reduceCtorEq false_imp_iff true_imp_iff forall_const Bool.false_eq_true Bool.true_eq_false beq_self_eq_true
 and_true true_and if_true if_false gC0 gC1 List.toList_toArray List.length_cons List.length_nil dW Nat.zero_add List.nil_append List.append_nil List.cons_append
 beq_true beq_false Bool.not_true Bool.not_false yH um sv sA yI wP yJ
end
section
variable {P:Program} {h:Hp}
def iJ:Op->Bool
 | .load .. => true
 | .binOp .. => true
 | .slice .. => true
 | .lookup .. => true
 | .entry .. => true
 | .call .. => true
 | _=>false
theorem rV {op:Op} (hu:iJ op=false) (h h1:Hp) (a:Ev.A):aH P h a op=aH P h1 a op:=by
 cases op<;>first|rfl|cases hu
structure Pd where
 i:Nat
 a:Ev.A
 op:Op
 v:Value
structure Cl where
 f:FuncId
 args:List Value
 h:Hp
 v:Value
 h1:Hp
def nI:List Nat->Nat->Bool
 | [],_=>false
 | x::l,i=>(i==x)||nI l i
theorem qS (l:List Nat) (i:Nat):nI l i=has l i:=by
 induction l with
 | nil=>rfl
 | cons x l ih =>
   have e:(i==x)=Nat.beq i x:=by rw[Bool.eq_iff_iff];simp
   simp only[nI,ih,has,List.any_cons,e]
def cJ (w:List Nat):List Pd->List Pd
 | []=>[]
 | p::l=>match nI w p.i with
   | true=>cJ w l
   | false=>p::cJ w l
def pdW (P:Program) (h:Hp):List Pd->Prop->Prop
 | [],K=>K
 | p::l,K=>opt (aH P h p.a p.op) fun u=>wif (aB 9 p.v u) (pdW P h l K) False
def pE (P:Program) (a:Ev.A) (op:Op) (v:Value) (w:List Nat):List (Nat×Hp)->Prop->Prop
 | [],K=>K
 | (e,h)::l,K=>wif (nI w e) (pE P a op v w l K) (opt (aH P h a op) fun u=>wif (aB 9 v u) (pE P a op v w l K) False)
def nJ (f:FuncId) (args:List Value) (h:Hp):List Cl->Prop
 | []=>True
 | c::l=>(c.f=f->c.args=args->c.h=h->False)/\nJ f args h l
def DT (P:Program) (all:List Oper):List (List Nat)->Nat->List Oper->List (Nat×Hp)->List Cl->List Pd->Ev.A->Hp->(Ev.A->Hp->Prop)->Prop
 | _,_,[],_,_,_,a,h,K=>K a h
 | [],_,_::_,_,_,_,_,_,_=>False
 | w::ws,i,o::r,gp,cs,pend,a,h,K =>
   wif (aW all a o)
    (wif (aP o.op)
     (opt (aH P h a o.op) fun v=>wif (aB 9 v v) (wif (iJ o.op) (pE P a o.op v w gp (DT P all ws (i+1) r gp cs (⟨i,a,o.op,v⟩::pend) (a.set o.dst v) h K)) (DT P all ws (i+1) r gp cs pend (a.set o.dst v) h K)) False)
     (jL (cR a o.op) (fun f args=>∃v h1,Snd P f args h v h1/\nJ f args h cs/\pdW P h1 (cJ w pend) (DT P all ws (i+1) r (gp++[(i,h)]) (⟨f,args,h,v,h1⟩::cs) (cJ w pend) (a.set o.dst v) h1 K))
      (opt (cq P h a o.op) fun p=>pdW P p.2 (cJ w pend) (DT P all ws (i+1) r (gp++[(i,h)]) cs (cJ w pend) (a.set o.dst p.1) p.2 K))))
    (wif (aP o.op) (DT P all ws (i+1) r gp cs pend (a.set o.dst ai) h K) (DT P all ws (i+1) r (gp++[(i,h)]) cs (cJ w pend) (a.set o.dst ai) h K))
def vc (P:Program) (h:Hp) (a:Ev.A) (op:Op) (v:Value):Prop:=∃u,aH P h a op=some u/\aB 9 v u=true
def vd (P:Program) (h:Hp) (l:List Pd):Prop:=∀p∈l,vc P h p.a p.op p.v
theorem tO {K:Prop}:∀{l:List Pd},pdW P h l K->vd P h l/\K
 | [],k=>⟨fun p hp=>(by cases hp),k⟩
 | p::l,k=>by
   obtain ⟨u,hu,k⟩:=cX k
   unfold wif at k
   split at k
   ·rename_i hs
    obtain ⟨k1,k2⟩:=tO k
    refine ⟨fun q hq => ?_,k2⟩
    cases hq with
    | head=>exact ⟨u,hu,hs⟩
    | tail _ hq=>exact k1 q hq
   ·exact k.elim
theorem nK {a:Ev.A} {op:Op} {v:Value} {w:List Nat} {K:Prop}:∀{l:List (Nat×Hp)},pE P a op v w l K->(∀g∈l,has w g.1=true\/vc P g.2 a op v)/\K
 | [],k=>⟨fun p hp=>(by cases hp),k⟩
 | (e,h)::l,k=>by
   simp only[pE,wif] at k
   split at k
   ·rename_i hw
    obtain ⟨k1,k2⟩:=nK k
    refine ⟨fun q hq => ?_,k2⟩
    cases hq with
    | head=>exact .inl (by rw[<-qS];exact hw)
    | tail _ hq=>exact k1 q hq
   ·obtain ⟨u,hu,k⟩:=cX k
    split at k
    ·rename_i hs
     obtain ⟨k1,k2⟩:=nK k
     refine ⟨fun q hq => ?_,k2⟩
     cases hq with
     | head=>exact .inr ⟨u,hu,hs⟩
     | tail _ hq=>exact k1 q hq
    ·exact k.elim
theorem fH {w:List Nat} {p:Pd}:∀{l:List Pd},p∈cJ w l->p∈l
 | [],h=>by cases h
 | q::l,h=>by
   simp only[cJ] at h
   split at h
   ·exact .tail _ (fH h)
   ·cases h with
    | head=>exact .head _
    | tail _ h=>exact .tail _ (fH h)
theorem lC {w:List Nat} {p:Pd}:∀{l:List Pd},p∈l->p∈cJ w l\/has w p.i=true
 | q::l,h=>by
   simp only[cJ]
   cases h with
   | head =>
     cases hw:nI w p.i with
     | true=>exact .inr (by rw[<-qS];exact hw)
     | false=>exact .inl (.head _)
   | tail _ h =>
     rcases lC (w:=w) h with k|k
     ·left
      cases hw:nI w q.i with
      | true=>exact k
      | false=>exact .tail _ k
     ·exact .inr k
theorem nM {f:FuncId} {args:List Value} {h:Hp}:∀{l:List Cl},nJ f args h l->∀c∈l,¬(c.f=f/\c.args=args/\c.h=h)
 | c::l,k,d,hd=>by
   cases hd with
   | head=>exact fun ⟨x,y,z⟩=>k.1 x y z
   | tail _ hd=>exact nM k.2 d hd
theorem jY {ps:List (List Nat)} {g i:Nat} {a:Ev.A} {op:Op} {v:Value} (hr:aP op=true):∀(gp gs:List (Nat×Hp)),(∀x∈gp,has (aG ps i) x.1=true\/vc P x.2 a op v)->bA P g a op v i ps gs=true->bA P g a op v i ps (gp++gs)=true
 | [],gs,_,k=>k
 | (e,h)::gp,gs,hp,k=>by
   have ih:=jY (g:=g) hr gp gs (fun x hx=>hp x (.tail _ hx)) k
   rw[List.cons_append]
   unfold bA
   split
   ·exact ih
   ·rename_i hw
    rcases hp _ (.head _) with q|⟨u,q1,q2⟩
    ·rw[q] at hw;cases hw
    ·have:aN P g h a op=some u:=by simp only[aN,hr];exact q1
     simp only[this,q2]
     split
     ·rfl
     ·exact ih
theorem nN {ps:List (List Nat)} {g i:Nat} {a:Ev.A} {op:Op} {v:Value} (hr:aP op=true) (gs:List (Nat×Hp)) (hp:∀x∈gs,vc P x.2 a op v):bA P g a op v i ps gs=true:=by
 have:=jY (P:=P) (ps:=ps) (g:=g) (i:=i) hr gs [] (fun x hx=>.inr (hp x hx)) rfl
 simpa using this
def nO (ps:List (List Nat)):Bool:=(List.range ps.length).all fun j=>(aG ps j).all fun e=>Nat.blt e j
theorem fwd {ps:List (List Nat)} (k:nO ps=true) {j e:Nat} (hj:j<=e):has (aG ps j) e=false:=by
 cases hh:has (aG ps j) e with
 | false=>rfl
 | true =>
   exfalso
   unfold has at hh
   rw[List.any_eq_true] at hh
   obtain ⟨x,hx,hxe⟩:=hh
   have hxe':e=x:=by simpa using hxe
   subst hxe'
   by_cases hl:j<ps.length
   ·have:=List.all_eq_true.1 k j (List.mem_range.2 hl)
    have:=List.all_eq_true.1 this e hx
    have:e<j:=by simpa using this
    omega
   ·unfold aG at hx
    rw[List.getElem?_eq_none (by omega)] at hx
    cases hx
def nP (P:Program) (L cs:List Cl):Prop:=(∀c∈L,Snd P c.f c.args c.h c.v c.h1)/\L.Pairwise (fun c d=>¬(c.f=d.f/\c.args=d.args/\c.h=d.h))/\∀c∈L,∀d∈cs,¬(d.f=c.f/\d.args=c.args/\d.h=c.h)
def nQ (C:bI) (L:List Cl):Prop:=∀c∈L,C c.f c.args c.h=some (c.v,c.h1)
theorem fD:∀(L:List Cl) {cs:List Cl},nP P L cs->∃C,bO P C/\nQ C L
 | [],_,_=>⟨_,dz,fun c hc=>by cases hc⟩
 | c::L,cs,⟨k1,k2,k3⟩=>by
   rw[List.pairwise_cons] at k2
   obtain ⟨C,HC,hk⟩:=fD L (cs:=[]) ⟨fun d hd=>k1 d (.tail _ hd),k2.2,fun _ _ d hd=>by cases hd⟩
   refine ⟨orc c.f c.args c.h c.v c.h1 C,yp (k1 c (.head _)) HC,fun d hd => ?_⟩
   cases hd with
   | head=>exact sn
   | tail _ hd =>
     have:=k2.1 d hd
     unfold orc
     rw[if_neg (fun ⟨x,y,z⟩=>this ⟨x.symm,y.symm,z.symm⟩)]
     exact hk d hd
theorem ve {all:List Oper} {ps:List (List Nat)} (hf:nO ps=true) {n:Nat}:∀(r:List Oper) (ws pre:List (List Nat)) (i:Nat) {gp:List (Nat×Hp)} {cs:List Cl} {pend:List Pd} {a:Ev.A} {h:Hp} {K:Ev.A->Hp->Prop},
  ps=pre++ws->pre.length=i->r.all (fun o=>dL n o.dst)=true->a.n=n->vd P h pend->(∀p∈pend,aP p.op=true/\p.i<i)->DT P all ws i r gp cs pend a h K ->
  ∃L a1 h1 gs,a1.n=n/\K a1 h1/\nP P L cs/\(∀p∈pend,∀g,bA P g p.a p.op p.v p.i ps gs=true) /\
   ∀C,nQ C L->heaps P C false 0 all i r a h=some gs/\cN P C false 0 all ps (gp++gs) i r a h=some (a1,h1)
 | [],ws,pre,i,gp,cs,pend,a,h,K,_,_,_,hn,hp,hpi,k=>by
   have k':K a h:=by
    cases ws<;>exact k
   refine ⟨[],a,h,[(i,h)],hn,k',⟨fun _ hc=>(by cases hc),.nil,fun _ hc=>(by cases hc)⟩,?_,fun C _=>⟨rfl,rfl⟩⟩
   intro p hpm g
   exact nN (hpi p hpm).1 _ (fun x hx=>by
    cases hx with
    | head=>exact hp p hpm
    | tail _ hx=>cases hx)
 | o::r,[],_,_,_,_,_,_,_,_,_,_,_,_,_,_,k=>k.elim
 | o::r,w::ws,pre,i,gp,cs,pend,a,h,K,hps,hpre,hd,hn,hp,hpi,k=>by
   simp only[List.all_cons,Bool.and_eq_true] at hd
   obtain ⟨hd1,hd2⟩:=hd
   have hw:aG ps i=w:=by
    unfold aG
    rw[hps,List.getElem?_append_right (by omega),<-hpre]
    simp
   have hps':ps=(pre++[w])++ws:=by rw[hps];simp
   have hpre':(pre++[w]).length=i+1:=by simp[hpre]
   have hpi':∀p∈pend,aP p.op=true/\p.i<i+1:=fun p hp=>⟨(hpi p hp).1,Nat.lt_succ_of_lt (hpi p hp).2⟩
   have eff:∀{C':List Cl} {v:Value} {h2:Hp},aP o.op=false->vd P h2 (cJ w pend)->DT P all ws (i+1) r (gp++[(i,h)]) C' (cJ w pend) (a.set o.dst v) h2 K ->
     ∃L a1 h1 gs,a1.n=n/\K a1 h1/\nP P L C'/\(∀p∈pend,∀g,bA P g p.a p.op p.v p.i ps gs=true) /\
      ∀C,nQ C L->bv P C false all (0+i) o a h=some (a.set o.dst v,h2)->heaps P C false 0 all i (o::r) a h=some gs/\cN P C false 0 all ps (gp++gs) i (o::r) a h=some (a1,h1):=by
    intro C' v h2 hr hpd hk
    obtain ⟨L,a1,h1,gs,q1,q2,q3,q4,q5⟩:=ve hf r ws (pre++[w]) (i+1) (n:=n) hps' hpre' hd2 ((A.set_n _ _ _).trans hn) hpd (fun p hp=>hpi' p (fH hp)) hk
    have hr2:am false o.op=false:=by simp only[am,hr]
    refine ⟨L,a1,h1,(i,h)::gs,q1,q2,q3,?_,?_⟩
    ·intro p hpm g
     have hfw:=fwd hf (Nat.le_of_lt (hpi p hpm).2)
     obtain ⟨u,u1,u2⟩:=hp p hpm
     have:aN P g h p.a p.op=some u:=by simp only[aN,(hpi p hpm).1];exact u1
     simp only[bA,hfw,this,u2,hw]
     rcases lC (w:=w) hpm with q|q
     ·split
      ·rfl
      ·exact q4 p q g
     ·rw[q]
    ·intro C hC hs
     obtain ⟨z1,z2⟩:=q5 C hC
     refine ⟨?_,?_⟩
     ·simp only[heaps,hs,z1,hr2]
     ·simp only[cN,hs,hr2]
      rw[show gp++(i,h)::gs=gp++[(i,h)]++gs by simp]
      exact z2
   have rd:∀{pend':List Pd} {v:Value},aP o.op=true->vd P h pend'->(∀p∈pend',aP p.op=true/\p.i<i+1)->(∀p∈pend,p∈pend')->DT P all ws (i+1) r gp cs pend' (a.set o.dst v) h K ->
     (∀gs,(∀p∈pend',∀g,bA P g p.a p.op p.v p.i ps gs=true)->aW all a o=true->∃v,aH P h a o.op=some v/\bA P (0+i) a o.op v i ps (gp++gs)=true) ->
     (∀C,bv P C false all (0+i) o a h=some (a.set o.dst v,h)) ->
     ∃L a1 h1 gs,a1.n=n/\K a1 h1/\nP P L cs/\(∀p∈pend,∀g,bA P g p.a p.op p.v p.i ps gs=true) /\
      ∀C,nQ C L->heaps P C false 0 all i (o::r) a h=some gs/\cN P C false 0 all ps (gp++gs) i (o::r) a h=some (a1,h1):=by
    intro pend' v hr hpd hpi2 hsub hk hst hstep
    obtain ⟨L,a1,h1,gs,q1,q2,q3,q4,q5⟩:=ve hf r ws (pre++[w]) (i+1) (n:=n) hps' hpre' hd2 ((A.set_n _ _ _).trans hn) hpd hpi2 hk
    have hr2:am false o.op=true:=by simp only[am,hr]
    refine ⟨L,a1,h1,gs,q1,q2,q3,fun p hp=>q4 p (hsub p hp),fun C hC => ?_⟩
    obtain ⟨z1,z2⟩:=q5 C hC
    have hs:=hstep C
    refine ⟨by simp only[heaps,hs,z1,hr2],?_⟩
    simp only[cN,hs,hr2]
    cases hwd:aW all a o with
    | false=>exact z2
    | true =>
      obtain ⟨u,u1,u2⟩:=hst gs q4 hwd
      have:aN P (0+i) h a o.op=some u:=by simp only[aN,hr];exact u1
      simp only[this,u2]
      exact z2
   simp only[DT,wif,jL] at k
   split at k
   ·rename_i hwd
    split at k
    ·rename_i hr
     obtain ⟨v,hv,k⟩:=cX k
     split at k
     ·rename_i hs
      have hr2:am false o.op=true:=by simp only[am,hr]
      have hstep:∀C,bv P C false all (0+i) o a h=some (a.set o.dst v,h):=by
       intro C
       have:aN P (0+i) h a o.op=some v:=by simp only[aN,hr];exact hv
       simp only[bv,hwd,dD,hr2,this,nz,A.put_ok v hd1 hn]
      split at k
      ·obtain ⟨k1,k⟩:=nK k
       refine rd hr ?_ ?_ (fun p hp=>.tail _ hp) k ?_ hstep
       ·intro p hpm
        cases hpm with
        | head=>exact ⟨v,hv,hs⟩
        | tail _ hpm=>exact hp p hpm
       ·intro p hpm
        cases hpm with
        | head=>exact ⟨hr,lSs _⟩
        | tail _ hpm=>exact hpi' p hpm
       ·intro gs hst _
        refine ⟨v,hv,jY hr gp gs ?_ (hst _ (.head _) _)⟩
        intro x hx
        rw[hw]
        exact k1 x hx
      ·rename_i hu
       refine rd hr hp hpi' (fun p hp=>hp) k ?_ hstep
       intro gs _ _
       exact ⟨v,hv,nN hr _ (fun x _=>⟨v,(rV hu _ _ _).trans hv,hs⟩)⟩
     ·exact k.elim
    ·rename_i hr
     have hr2:am false o.op=false:=by simp only[am,hr]
     split at k
     ·rename_i f args hc
      obtain ⟨v,h2,s,hfr,k⟩:=k
      obtain ⟨k1,k⟩:=tO k
      obtain ⟨L,a1,h1,gs,q1,q2,q3,q4,q5⟩:=eff hr k1 k
      refine ⟨⟨f,args,h,v,h2⟩::L,a1,h1,gs,q1,q2,⟨?_,?_,?_⟩,q4,?_⟩
      ·intro c hc
       cases hc with
       | head=>exact s
       | tail _ hc=>exact q3.1 c hc
      ·refine .cons (fun d hd=>q3.2.2 d hd _ (.head _)) q3.2.1
      ·intro c hc d hd
       cases hc with
       | head=>exact nM hfr d hd
       | tail _ hc=>exact q3.2.2 c hc d (.tail _ hd)
      ·intro C hC
       refine q5 C (fun c hc=>hC c (.tail _ hc)) ?_
       have hcall:=hC _ (.head _)
       simp only at hcall
       simp only[bv,hwd,dD,hr2,fi,hr,hc,hcall,A.put_ok v hd1 hn]
     ·rename_i hc
      obtain ⟨⟨v,h2⟩,s,k⟩:=cX k
      obtain ⟨k1,k⟩:=tO k
      obtain ⟨L,a1,h1,gs,q1,q2,q3,q4,q5⟩:=eff hr k1 k
      refine ⟨L,a1,h1,gs,q1,q2,q3,q4,fun C hC=>q5 C hC ?_⟩
      simp only[bv,hwd,dD,hr2,fi,hr,hc,s,A.put_ok v hd1 hn]
   ·rename_i hwd
    have hstep:∀C,bv P C false all (0+i) o a h=some (a.set o.dst ai,h):=by
     intro C
     simp only[bv,hwd,A.put_ok ai hd1 hn]
    split at k
    ·rename_i hr
     exact rd hr hp hpi' (fun p hp=>hp) k (fun _ _ e=>by rw[hwd] at e;cases e) hstep
    ·rename_i hr
     obtain ⟨L,a1,h1,gs,q1,q2,q3,q4,q5⟩:=eff hr (fun p hpm=>hp p (fH hpm)) k
     exact ⟨L,a1,h1,gs,q1,q2,q3,q4,fun C hC=>q5 C hC (hstep C)⟩
def gK (ps qs:List (List Nat)):Bool:=match Nat.beq ps.length qs.length with
 | true=>(List.range ps.length).all fun j=>(aG ps j).all (has (aG qs j))&&(aG qs j).all (has (aG ps j))
 | false=>false
theorem iK {ps qs:List (List Nat)} (k:gK ps qs=true) (j e:Nat):has (aG ps j) e=has (aG qs j) e:=by
 unfold gK at k
 split at k
 ·rename_i hl
  have hl':ps.length=qs.length:=by simpa using hl
  by_cases hj:j<ps.length
  ·have:=List.all_eq_true.1 k j (List.mem_range.2 hj)
   rw[Bool.and_eq_true] at this
   have one:∀{l m:List Nat},l.all (has m)=true->has l e=true->has m e=true:=by
    intro l m h1 h2
    unfold has at h2
    rw[List.any_eq_true] at h2
    obtain ⟨x,hx,hxe⟩:=h2
    have:e=x:=by simpa using hxe
    subst this
    exact List.all_eq_true.1 h1 _ hx
   rw[Bool.eq_iff_iff]
   exact ⟨one this.1,one this.2⟩
  ·unfold aG
   rw[List.getElem?_eq_none (by omega),List.getElem?_eq_none (by omega)]
 ·cases k
theorem iL {ps qs:List (List Nat)} (k:∀j e,has (aG ps j) e=has (aG qs j) e) (g:Nat) (a:Ev.A) (op:Op) (v:Value) (i:Nat):∀gs,bA P g a op v i ps gs=bA P g a op v i qs gs
 | []=>rfl
 | (e,h)::r=>by simp only[bA,k,iL k g a op v i r]
theorem jZ {C:bI} {all:List Oper} {ps qs:List (List Nat)} (k:∀j e,has (aG ps j) e=has (aG qs j) e) (gs:List (Nat×Hp)):∀(r:List Oper) (i:Nat) (a:Ev.A) (h:Hp),cN P C false 0 all ps gs i r a h=cN P C false 0 all qs gs i r a h
 | [],_,_,_=>rfl
 | o::r,i,a,h=>by
   simp only[cN,iL k]
   cases bv P C false all (0+i) o a h with
   | none=>rfl
   | some p=>simp only[jZ k gs r]
def gX (n:Nat) (ps:List (List Nat)) (ops:List Oper):Bool:=match dp false ops,nO ps,ops.all (fun o=>dL n o.dst),gK (dG ops) ps with
 | true,true,true,true=>true
 | _,_,_,_=>false
theorem Dy {ops:List Oper} {n:Nat} {ps:List (List Nat)} {a:Ev.A} {h:Hp} {K:Ev.A->Hp->Prop} (hn:a.n=n) (ho:gX n ps ops=true) (k:DT P ops ps 0 ops [] [] [] a h K):pJ P ops a h K:=by
 unfold gX at ho
 split at ho
 ·rename_i h1 h2 h3 hps
  obtain ⟨L,a1,h1',gs,q1,q2,q3,_,q5⟩:=ve h2 ops ps [] 0 (n:=n) rfl rfl h3 hn (fun _ hp=>by cases hp) (fun _ hp=>by cases hp) k
  obtain ⟨C,HC,hk⟩:=fD L q3
  obtain ⟨z1,z2⟩:=q5 C hk
  refine .inl ⟨C,a1,h1',HC,?_,q1.trans hn.symm,q2⟩
  rw[List.nil_append] at z2
  simp only[iG,h1,drawn,z1,jZ (iK hps),z2]
 ·cases ho
def spotless:Option Addr->Bool
 | none=>true
 | some a=>a.spot.isNone
theorem wm (n b o:Nat):aB n (.pointer (some ⟨b,o,none⟩)) (.pointer (some ⟨b,o,none⟩))=true:=by cases n<;>simp[aB]
theorem tP (n:Nat):aB n (.pointer none) (.pointer none)=true:=by cases n<;>rfl
theorem mh (n b o k c:Nat):aB n (.slice (some ⟨b,o,none⟩) k c) (.slice (some ⟨b,o,none⟩) k c)=true:=by cases n<;>simp[aB]
theorem kp (n k c:Nat):aB n (.slice none k c) (.slice none k c)=true:=by cases n<;>simp[aB]
theorem ab {A:Option Addr} (hA:spotless A=true) (n k c:Nat):aB n (.slice A k c) (.slice A k c)=true:=by
 cases A with
 | none=>exact kp n k c
 | some a =>
   obtain ⟨b,o,s⟩:=a
   cases s with
   | none=>exact mh n b o k c
   | some s=>cases hA
theorem qT (n:Nat) (s:ByteArray):aB n (.string s) (.string s)=true:=by cases n<;>simp[aB,ch]
theorem wn (n:Nat) (k:IntKind) (i:Int):aB n (.int k i) (.int k i)=true:=by cases n<;>cases k<;>simp[aB,fO,da]
theorem tQ (n:Nat) (b:Bool):aB n (.bool b) (.bool b)=true:=by cases n<;>simp[aB]
theorem wo (n b:Nat):aB n (.map (some b)) (.map (some b))=true:=by cases n<;>simp[aB]
theorem tR (n:Nat):aB n (.map none) (.map none)=true:=by cases n<;>rfl
theorem nR:∀(l:List Value) (f:Value->Value->Bool),((l.zip l).all fun p=>f p.1 p.2)=l.all fun v=>f v v
 | [],_=>rfl
 | v::l,f=>by simp only[List.zip_cons_cons,List.all_cons,nR l f]
def jh (n:Nat):List Value->Bool
 | []=>true
 | v::l=>aB n v v&&jh n l
theorem nS (n:Nat) (l:List Value):jh n l=l.all fun v=>aB n v v:=by
 induction l with
 | nil=>rfl
 | cons v l ih=>simp only[jh,List.all_cons,ih]
theorem wq (n:Nat) (l:List Value):aB (n+1) (.agg l.toArray) (.agg l.toArray)=jh n l:=by
 have:=nR l (fun x y=>aB n x y)
 simp only[aB,List.toList_toArray,dW,Bool.true_and,nS,<-this]
theorem rW (n:Nat) (l:List Value):aB (n+1) (.tuple l.toArray) (.tuple l.toArray)=jh n l:=by
 have:=nR l (fun x y=>aB n x y)
 simp only[aB,List.toList_toArray,dW,Bool.true_and,nS,<-this]
def PdW (P:Program) (h:Hp) (l:List Pd) (K:Prop) (_:Tag K):Prop:=pdW P h l K
def pF (P:Program) (a:Ev.A) (op:Op) (v:Value) (w:List Nat) (l:List (Nat×Hp)) (K:Prop) (_:Tag K):Prop:=pE P a op v w l K
def DTt (P:Program) (all:List Oper) (ws:List (List Nat)) (i:Nat) (r:List Oper) (gp:List (Nat×Hp)) (cs:List Cl) (pend:List Pd) (a:Ev.A) (h:Hp) (K:Ev.A->Hp->Prop) (_:Tag all) (_:Tag ws) (_:Tag r) (_:Tag K):Prop:=DT P all ws i r gp cs pend a h K
section
attribute [local semireducible] Opt Wif iM Dw
theorem AB (K:Prop) (t:Tag K):PdW P h [] K t=K:=nr rfl
theorem xW (p:Pd) (l:List Pd) (K:Prop) (t:Tag K):PdW P h (p::l) K t=Opt (aH P h p.a p.op) (fun u=>Wif (aB 9 p.v u) (PdW P h l K ⟨⟩) False ⟨⟩ ⟨⟩) ⟨⟩:=nr rfl
theorem wr (a:Ev.A) (op:Op) (v:Value) (w:List Nat) (K:Prop) (t:Tag K):pF P a op v w [] K t=K:=nr rfl
theorem tS (a:Ev.A) (op:Op) (v:Value) (w:List Nat) (e:Nat) (h:Hp) (l:List (Nat×Hp)) (K:Prop) (t:Tag K):pF P a op v w ((e,h)::l) K t =
 Wif (nI w e) (pF P a op v w l K ⟨⟩) (Opt (aH P h a op) (fun u=>Wif (aB 9 v u) (pF P a op v w l K ⟨⟩) False ⟨⟩ ⟨⟩) ⟨⟩) ⟨⟩ ⟨⟩:=nr rfl
theorem AC (all:List Oper) (ws:List (List Nat)) (i:Nat) (gp:List (Nat×Hp)) (cs:List Cl) (pend:List Pd) (a:Ev.A) (h:Hp) (K:Ev.A->Hp->Prop) (t1:Tag all) (t2:Tag ws) (t3:Tag ([]:List Oper)) (t4:Tag K) :
  DTt P all ws i [] gp cs pend a h K t1 t2 t3 t4=K a h:=by
 cases ws<;>exact nr rfl
theorem xX (all:List Oper) (w:List Nat) (ws:List (List Nat)) (i:Nat) (o:Oper) (r:List Oper) (gp:List (Nat×Hp)) (cs:List Cl) (pend:List Pd) (a:Ev.A) (h:Hp) (K:Ev.A->Hp->Prop) (t1:Tag all) (t2:Tag (w::ws)) (t3:Tag (o::r)) (t4:Tag K) :
 DTt P all (w::ws) i (o::r) gp cs pend a h K t1 t2 t3 t4 =
 Wif (aW all a o)
  (Wif (aP o.op)
   (Opt (aH P h a o.op) (fun v=>Wif (aB 9 v v) (Wif (iJ o.op) (pF P a o.op v w gp (DTt P all ws (i+1) r gp cs (⟨i,a,o.op,v⟩::pend) (a.set o.dst v) h K ⟨⟩ ⟨⟩ ⟨⟩ ⟨⟩) ⟨⟩) (DTt P all ws (i+1) r gp cs pend (a.set o.dst v) h K ⟨⟩ ⟨⟩ ⟨⟩ ⟨⟩) ⟨⟩ ⟨⟩) False ⟨⟩ ⟨⟩) ⟨⟩)
   (iM (cR a o.op) (fun f args=>∃v h1,Snd P f args h v h1/\nJ f args h cs/\PdW P h1 (cJ w pend) (DTt P all ws (i+1) r (gp++[(i,h)]) (⟨f,args,h,v,h1⟩::cs) (cJ w pend) (a.set o.dst v) h1 K ⟨⟩ ⟨⟩ ⟨⟩ ⟨⟩) ⟨⟩)
    (Opt (cq P h a o.op) (fun p=>PdW P p.2 (cJ w pend) (DTt P all ws (i+1) r (gp++[(i,h)]) cs (cJ w pend) (a.set o.dst p.1) p.2 K ⟨⟩ ⟨⟩ ⟨⟩ ⟨⟩) ⟨⟩) ⟨⟩) ⟨⟩ ⟨⟩) ⟨⟩ ⟨⟩)
  (Wif (aP o.op) (DTt P all ws (i+1) r gp cs pend (a.set o.dst ai) h K ⟨⟩ ⟨⟩ ⟨⟩ ⟨⟩) (DTt P all ws (i+1) r (gp++[(i,h)]) cs (cJ w pend) (a.set o.dst ai) h K ⟨⟩ ⟨⟩ ⟨⟩ ⟨⟩) ⟨⟩ ⟨⟩) ⟨⟩ ⟨⟩:=nr rfl
theorem aD {ops:List Oper} {n:Nat} (ps:List (List Nat)) {a:Ev.A} {h:Hp} {K:Ev.A->Hp->Prop} {t:Tag ops} {u:Tag K} (hn:a.n=n) (ho:gX n ps ops=true)
 (k:DTt P ops ps 0 ops [] [] [] a h K ⟨⟩ ⟨⟩ ⟨⟩ ⟨⟩):Dw P ops a h K t u:=Dy hn ho k
end
attribute [irreducible] PdW pF DTt
attribute [go_sem] Nat.reduceAdd evPairs cM bC wm tP mh kp qT wn tQ wo tR wq rW jh Bool.and_true Bool.true_and AB xW wr tS AC xX iJ nI cJ nJ Bool.or_false Bool.or_true Bool.false_or Bool.true_or
end
end Go.Ev
end
section
namespace Go.Ev
theorem yy {P:Program} (h0:P.follows .mixedOrders=true):WfP P:=⟨h0⟩
end Go.Ev
end
section
namespace Go.Ev.Z24
open Go.RowKit Go.Proofs
theorem wf:WfP Tryz.prog:=yy (by kernel_rfl)
theorem sz3:aA Tryz.prog 3=some 1:=by kernel_rfl
theorem sz4:aA Tryz.prog 4=some 1:=by kernel_rfl
theorem sz9:aA Tryz.prog 9=some 1:=by kernel_rfl
theorem EL:aA Tryz.prog 22=some 1:=by kernel_rfl
theorem Di:aA Tryz.prog 24=some 1:=by kernel_rfl
theorem Dj:aA Tryz.prog 34=some 1:=by kernel_rfl
theorem Ae:aA Tryz.prog 37=some 1:=by kernel_rfl
theorem BY:aA Tryz.prog 44=some 3:=by kernel_rfl
theorem DZ:aA Tryz.prog 46=some 1:=by kernel_rfl
theorem BZ:aA Tryz.prog 48=some 3:=by kernel_rfl
theorem Dk:aA Tryz.prog 50=some 4:=by kernel_rfl
theorem D0:aA Tryz.prog 97=some 3:=by kernel_rfl
theorem D1:aA Tryz.prog 63=some 1:=by kernel_rfl
theorem pg:aA Tryz.prog 58=some 1:=by kernel_rfl
theorem Af:aA Tryz.prog 77=some 1:=by kernel_rfl
theorem Cv:aA Tryz.prog 126=some 1:=by kernel_rfl
theorem Cw:aA Tryz.prog 144=some 2:=by kernel_rfl
@[go_sem] theorem z4 : bE Tryz.prog 4 = some (.bool false) := by kernel_rfl
@[go_sem] theorem z9 : bE Tryz.prog 9 = some (.string ⟨#[]⟩) := by kernel_rfl
@[go_sem] theorem z31 : bE Tryz.prog 44 = some (.agg #[.string ⟨#[]⟩, .string ⟨#[]⟩, .slice none 0 0]) := by kernel_rfl
@[go_sem] theorem z52 : bE Tryz.prog 48 = some (.agg #[.string ⟨#[]⟩, .string ⟨#[]⟩, .slice none 0 0]) := by kernel_rfl
@[go_sem] theorem z54 : bE Tryz.prog 50 = some (.agg #[.string ⟨#[]⟩, .string ⟨#[]⟩, .string ⟨#[]⟩, .slice none 0 0]) := by kernel_rfl
@[go_sem] theorem z75 : bE Tryz.prog 97 = some (.agg #[.bool false, .int .i64 0, .slice none 0 0]) := by kernel_rfl
@[go_sem] theorem Dm : bE Tryz.prog 58 = some (.slice none 0 0) := by kernel_rfl
@[go_sem] theorem EM : bE Tryz.prog 79 = some (.agg #[.slice none 0 0, .map none, .slice none 0 0]) := by kernel_rfl
@[go_sem] theorem EN : bE Tryz.prog 128 = some (.agg #[.pointer none, .slice none 0 0, .map none, .int .i64 0]) := by kernel_rfl
@[go_sem] theorem EO : bE Tryz.prog 144 = some (.agg #[.int .i64 0, .int .i64 0]) := by kernel_rfl
@[go_sem] theorem ld3 (h : Hp) (a : Addr) : aV Tryz.prog h 3 a = h.load a := bQ Tryz.underlying3 rfl h a
@[go_sem] theorem ld4 (h : Hp) (a : Addr) : aV Tryz.prog h 4 a = h.load a := bQ Tryz.underlying4 rfl h a
@[go_sem] theorem ld9 (h : Hp) (a : Addr) : aV Tryz.prog h 9 a = h.load a := bQ Tryz.underlying9 rfl h a
@[go_sem] theorem FH (h : Hp) (a : Addr) : aV Tryz.prog h 22 a = h.load a := bQ Tryz.underlying22 rfl h a
@[go_sem] theorem FI (h : Hp) (a : Addr) : aV Tryz.prog h 24 a = match h.loads a 1 with | some l => some (.agg l.toArray) | none => none := eh Tryz.underlying24 Di h a
@[go_sem] theorem FJ (h : Hp) (a : Addr) : aV Tryz.prog h 34 a = h.load a := bQ Tryz.underlying34 rfl h a
@[go_sem] theorem FK (h : Hp) (a : Addr) : aV Tryz.prog h 37 a = h.load a := bQ Tryz.underlying37 rfl h a
@[go_sem] theorem FL (h : Hp) (a : Addr) : aV Tryz.prog h 44 a = match h.loads a 3 with | some l => some (.agg l.toArray) | none => none := eh Tryz.underlying44 BY h a
@[go_sem] theorem FM (h : Hp) (a : Addr) : aV Tryz.prog h 46 a = h.load a := bQ Tryz.underlying46 rfl h a
@[go_sem] theorem FN (h : Hp) (a : Addr) : aV Tryz.prog h 48 a = match h.loads a 3 with | some l => some (.agg l.toArray) | none => none := eh Tryz.underlying48 BZ h a
@[go_sem] theorem FO (h : Hp) (a : Addr) : aV Tryz.prog h 50 a = match h.loads a 4 with | some l => some (.agg l.toArray) | none => none := eh Tryz.underlying50 Dk h a
@[go_sem] theorem FP (h : Hp) (a : Addr) : aV Tryz.prog h 97 a = match h.loads a 3 with | some l => some (.agg l.toArray) | none => none := eh Tryz.underlying97 D0 h a
@[go_sem] theorem FQ (h : Hp) (a : Addr) : aV Tryz.prog h 63 a = h.load a := bQ Tryz.underlying63 rfl h a
@[go_sem] theorem Ft (h : Hp) (a : Addr) : aV Tryz.prog h 58 a = h.load a := bQ Tryz.underlying58 rfl h a
@[go_sem] theorem Fu (h : Hp) (a : Addr) : aV Tryz.prog h 77 a = h.load a := bQ Tryz.underlying77 rfl h a
@[go_sem] theorem Fv (h : Hp) (a : Addr) : aV Tryz.prog h 126 a = h.load a := bQ Tryz.underlying126 rfl h a
@[go_sem] theorem Fw (h : Hp) (a : Addr) : aV Tryz.prog h 144 a = match h.loads a 2 with | some l => some (.agg l.toArray) | none => none := eh Tryz.underlying144 Cw h a
@[go_sem] theorem st3 (h : Hp) (a : Addr) (v : Value) : bc Tryz.prog h 3 a v = match Nat.beq v.cells.toList.length 1 with | true => h.stores a v.cells.toList | false => none := bH sz3 h a v
@[go_sem] theorem st4 (h : Hp) (a : Addr) (v : Value) : bc Tryz.prog h 4 a v = match Nat.beq v.cells.toList.length 1 with | true => h.stores a v.cells.toList | false => none := bH sz4 h a v
@[go_sem] theorem FU (h : Hp) (a : Addr) (v : Value) : bc Tryz.prog h 37 a v = match Nat.beq v.cells.toList.length 1 with | true => h.stores a v.cells.toList | false => none := bH Ae h a v
@[go_sem] theorem FV (h : Hp) (a : Addr) (v : Value) : bc Tryz.prog h 44 a v = match Nat.beq v.cells.toList.length 3 with | true => h.stores a v.cells.toList | false => none := bH BY h a v
@[go_sem] theorem FW (h : Hp) (a : Addr) (v : Value) : bc Tryz.prog h 48 a v = match Nat.beq v.cells.toList.length 3 with | true => h.stores a v.cells.toList | false => none := bH BZ h a v
@[go_sem] theorem FX (h : Hp) (a : Addr) (v : Value) : bc Tryz.prog h 50 a v = match Nat.beq v.cells.toList.length 4 with | true => h.stores a v.cells.toList | false => none := bH Dk h a v
@[go_sem] theorem FY (h : Hp) (a : Addr) (v : Value) : bc Tryz.prog h 97 a v = match Nat.beq v.cells.toList.length 3 with | true => h.stores a v.cells.toList | false => none := bH D0 h a v
@[go_sem] theorem Fx (h : Hp) (a : Addr) (v : Value) : bc Tryz.prog h 58 a v = match Nat.beq v.cells.toList.length 1 with | true => h.stores a v.cells.toList | false => none := bH pg h a v
@[go_sem] theorem Fy (h : Hp) (a : Addr) (v : Value) : bc Tryz.prog h 77 a v = match Nat.beq v.cells.toList.length 1 with | true => h.stores a v.cells.toList | false => none := bH Af h a v
@[go_sem] theorem Fz (h : Hp) (a : Addr) (v : Value) : bc Tryz.prog h 144 a v = match Nat.beq v.cells.toList.length 2 with | true => h.stores a v.cells.toList | false => none := bH Cw h a v
@[go_sem] theorem EP (b o : Nat) : aI Tryz.prog 24 (.pointer (some ⟨b, o, none⟩)) 0 = some (.pointer (some ⟨b, o, none⟩)) := aM 22 0 Tryz.underlying24 rfl EL b o
@[go_sem] theorem EQ (b o : Nat) : aI Tryz.prog 44 (.pointer (some ⟨b, o, none⟩)) 0 = some (.pointer (some ⟨b, o, none⟩)) := aM 9 0 Tryz.underlying44 rfl sz9 b o
@[go_sem] theorem ER (b o : Nat) : aI Tryz.prog 44 (.pointer (some ⟨b, o, none⟩)) 1 = some (.pointer (some ⟨b, o + 1, none⟩)) := aM 9 1 Tryz.underlying44 rfl sz9 b o
@[go_sem] theorem ES (b o : Nat) : aI Tryz.prog 44 (.pointer (some ⟨b, o, none⟩)) 2 = some (.pointer (some ⟨b, o + 2, none⟩)) := aM 37 2 Tryz.underlying44 rfl Ae b o
@[go_sem] theorem ET (b o : Nat) : aI Tryz.prog 48 (.pointer (some ⟨b, o, none⟩)) 0 = some (.pointer (some ⟨b, o, none⟩)) := aM 9 0 Tryz.underlying48 rfl sz9 b o
@[go_sem] theorem EU (b o : Nat) : aI Tryz.prog 48 (.pointer (some ⟨b, o, none⟩)) 1 = some (.pointer (some ⟨b, o + 1, none⟩)) := aM 9 1 Tryz.underlying48 rfl sz9 b o
@[go_sem] theorem EV (b o : Nat) : aI Tryz.prog 48 (.pointer (some ⟨b, o, none⟩)) 2 = some (.pointer (some ⟨b, o + 2, none⟩)) := aM 46 2 Tryz.underlying48 rfl DZ b o
@[go_sem] theorem EW (b o : Nat) : aI Tryz.prog 50 (.pointer (some ⟨b, o, none⟩)) 0 = some (.pointer (some ⟨b, o, none⟩)) := aM 9 0 Tryz.underlying50 rfl sz9 b o
@[go_sem] theorem EX (b o : Nat) : aI Tryz.prog 50 (.pointer (some ⟨b, o, none⟩)) 1 = some (.pointer (some ⟨b, o + 1, none⟩)) := aM 48 1 Tryz.underlying50 rfl BZ b o
@[go_sem] theorem EY (b o : Nat) : aI Tryz.prog 97 (.pointer (some ⟨b, o, none⟩)) 0 = some (.pointer (some ⟨b, o, none⟩)) := aM 4 0 Tryz.underlying97 rfl sz4 b o
@[go_sem] theorem EZ (b o : Nat) : aI Tryz.prog 97 (.pointer (some ⟨b, o, none⟩)) 1 = some (.pointer (some ⟨b, o + 1, none⟩)) := aM 3 1 Tryz.underlying97 rfl sz3 b o
@[go_sem] theorem E0 (b o : Nat) : aI Tryz.prog 97 (.pointer (some ⟨b, o, none⟩)) 2 = some (.pointer (some ⟨b, o + 2, none⟩)) := aM 37 2 Tryz.underlying97 rfl Ae b o
@[go_sem] theorem Ep (b o : Nat) : aI Tryz.prog 79 (.pointer (some ⟨b, o, none⟩)) 0 = some (.pointer (some ⟨b, o, none⟩)) := aM 24 0 Tryz.underlying79 rfl Di b o
@[go_sem] theorem Eq (b o : Nat) : aI Tryz.prog 79 (.pointer (some ⟨b, o, none⟩)) 1 = some (.pointer (some ⟨b, o + 1, none⟩)) := aM 77 1 Tryz.underlying79 rfl Af b o
@[go_sem] theorem Er (b o : Nat) : aI Tryz.prog 79 (.pointer (some ⟨b, o, none⟩)) 2 = some (.pointer (some ⟨b, o + 2, none⟩)) := aM 58 2 Tryz.underlying79 rfl pg b o
@[go_sem] theorem Es (b o : Nat) : aI Tryz.prog 128 (.pointer (some ⟨b, o, none⟩)) 0 = some (.pointer (some ⟨b, o, none⟩)) := aM 63 0 Tryz.underlying128 rfl D1 b o
@[go_sem] theorem Et (b o : Nat) : aI Tryz.prog 128 (.pointer (some ⟨b, o, none⟩)) 1 = some (.pointer (some ⟨b, o + 1, none⟩)) := aM 34 1 Tryz.underlying128 rfl Dj b o
@[go_sem] theorem Eu (b o : Nat) : aI Tryz.prog 128 (.pointer (some ⟨b, o, none⟩)) 2 = some (.pointer (some ⟨b, o + 2, none⟩)) := aM 126 2 Tryz.underlying128 rfl Cv b o
@[go_sem] theorem Ew (b o : Nat) : aI Tryz.prog 128 (.pointer (some ⟨b, o, none⟩)) 3 = some (.pointer (some ⟨b, o + 3, none⟩)) := aM 3 3 Tryz.underlying128 rfl sz3 b o
@[go_sem] theorem Ey (b o : Nat) : aI Tryz.prog 144 (.pointer (some ⟨b, o, none⟩)) 0 = some (.pointer (some ⟨b, o, none⟩)) := aM 3 0 Tryz.underlying144 rfl sz3 b o
@[go_sem] theorem eQ {b o n c i : Nat} (hi : i < n) : ap Tryz.prog 22 (.slice (some ⟨b, o, none⟩) n c) (.int .i64 (i : Int)) = some (.pointer (some ⟨b, o + i * 4, none⟩)) := cA Tryz.underlying22 Dk hi
@[go_sem] theorem xF {b o n c i : Nat} (hi : i < n) : ap Tryz.prog 34 (.slice (some ⟨b, o, none⟩) n c) (.int .i64 (i : Int)) = some (.pointer (some ⟨b, o + i, none⟩)) := by rw[cA Tryz.underlying34 sz9 hi, Nat.mul_one]
@[go_sem] theorem FZ {b o n c i : Nat} (hi : i < n) : ap Tryz.prog 37 (.slice (some ⟨b, o, none⟩) n c) (.int .i64 (i : Int)) = some (.pointer (some ⟨b, o + i * 3, none⟩)) := cA Tryz.underlying37 BY hi
@[go_sem] theorem eR {b o n c i : Nat} (hi : i < n) : ap Tryz.prog 46 (.slice (some ⟨b, o, none⟩) n c) (.int .i64 (i : Int)) = some (.pointer (some ⟨b, o + i * 3, none⟩)) := cA Tryz.underlying46 BZ hi
@[go_sem] theorem bM {b o n c i : Nat} (hi : i < n) : ap Tryz.prog 58 (.slice (some ⟨b, o, none⟩) n c) (.int .i64 (i : Int)) = some (.pointer (some ⟨b, o + i, none⟩)) := by rw[cA Tryz.underlying58 sz4 hi, Nat.mul_one]
@[go_sem] theorem eU {b o n c i : Nat} (hi : i < n) : ap Tryz.prog 132 (.slice (some ⟨b, o, none⟩) n c) (.int .i64 (i : Int)) = some (.pointer (some ⟨b, o + i, none⟩)) := by rw[cA Tryz.underlying132 pg hi, Nat.mul_one]
@[go_sem] theorem B0 (h : Hp) (s : ByteArray) (r : List TypeId) : iE Tryz.prog h (9 :: r) [.string s] = some (.int .i64 s.data.toList.length) := uf Tryz.underlying9 h s r
@[go_sem] theorem FA (h : Hp) (b : Option Addr) (n c : Nat) (r : List TypeId) : iE Tryz.prog h (22 :: r) [.slice b n c] = some (.int .i64 n) := dA Tryz.underlying22 h b n c r
@[go_sem] theorem FB (h : Hp) (b : Option Addr) (n c : Nat) (r : List TypeId) : iE Tryz.prog h (34 :: r) [.slice b n c] = some (.int .i64 n) := dA Tryz.underlying34 h b n c r
@[go_sem] theorem FC (h : Hp) (b : Option Addr) (n c : Nat) (r : List TypeId) : iE Tryz.prog h (37 :: r) [.slice b n c] = some (.int .i64 n) := dA Tryz.underlying37 h b n c r
@[go_sem] theorem FD (h : Hp) (b : Option Addr) (n c : Nat) (r : List TypeId) : iE Tryz.prog h (46 :: r) [.slice b n c] = some (.int .i64 n) := dA Tryz.underlying46 h b n c r
@[go_sem] theorem E1 (h : Hp) (b : Option Addr) (n c : Nat) (r : List TypeId) : iE Tryz.prog h (58 :: r) [.slice b n c] = some (.int .i64 n) := dA Tryz.underlying58 h b n c r
@[go_sem] theorem E2 (h : Hp) (b : Option Addr) (n c : Nat) (r : List TypeId) : iE Tryz.prog h (132 :: r) [.slice b n c] = some (.int .i64 n) := dA Tryz.underlying132 h b n c r
@[go_sem] theorem F0 (ps : List (Nat × Value)) : d3 Tryz.prog 44 ps = match cM (fun i => ([(0, 1), (1, 1), (2, 1)] : List (Nat × Nat))[i]?) [.string ⟨#[]⟩, .string ⟨#[]⟩, .slice none 0 0] ps with | some c => some (.agg c.toArray) | none => none := fj z31 Tryz.underlying44 (by kernel_rfl) (fun i => by
 match i with
 | 0=>exact by simp only[bg,gC0,gC1,sz9]
 | 1=>exact by simp only[bg,gC0,gC1,sz9]
 | 2=>exact by simp only[bg,gC0,gC1,Ae]
 | _+3=>rfl) ps
@[go_sem] theorem F5 (ps : List (Nat × Value)) : d3 Tryz.prog 48 ps = match cM (fun i => ([(0, 1), (1, 1), (2, 1)] : List (Nat × Nat))[i]?) [.string ⟨#[]⟩, .string ⟨#[]⟩, .slice none 0 0] ps with | some c => some (.agg c.toArray) | none => none := fj z52 Tryz.underlying48 (by kernel_rfl) (fun i => by
 match i with
 | 0=>exact by simp only[bg,gC0,gC1,sz9]
 | 1=>exact by simp only[bg,gC0,gC1,sz9]
 | 2=>exact by simp only[bg,gC0,gC1,DZ]
 | _+3=>rfl) ps
@[go_sem] theorem F6 (ps : List (Nat × Value)) : d3 Tryz.prog 97 ps = match cM (fun i => ([(0, 1), (1, 1), (2, 1)] : List (Nat × Nat))[i]?) [.bool false, .int .i64 0, .slice none 0 0] ps with | some c => some (.agg c.toArray) | none => none := fj z75 Tryz.underlying97 (by kernel_rfl) (fun i => by
 match i with
 | 0=>exact by simp only[bg,gC0,gC1,sz4]
 | 1=>exact by simp only[bg,gC0,gC1,sz3]
 | 2=>exact by simp only[bg,gC0,gC1,Ae]
 | _+3=>rfl) ps
@[go_sem] theorem FE (ps : List (Nat × Value)) : d3 Tryz.prog 79 ps = match cM (fun i => ([(0, 1), (1, 1), (2, 1)] : List (Nat × Nat))[i]?) [.slice none 0 0, .map none, .slice none 0 0] ps with | some c => some (.agg c.toArray) | none => none := fj EM Tryz.underlying79 (by kernel_rfl) (fun i => by
 match i with
 | 0=>exact by simp only[bg,gC0,gC1,Di]
 | 1=>exact by simp only[bg,gC0,gC1,Af]
 | 2=>exact by simp only[bg,gC0,gC1,pg]
 | _+3=>rfl) ps
@[go_sem] theorem FF (ps : List (Nat × Value)) : d3 Tryz.prog 128 ps = match cM (fun i => ([(0, 1), (1, 1), (2, 1), (3, 1)] : List (Nat × Nat))[i]?) [.pointer none, .slice none 0 0, .map none, .int .i64 0] ps with | some c => some (.agg c.toArray) | none => none := fj EN Tryz.underlying128 (by kernel_rfl) (fun i => by
 match i with
 | 0=>exact by simp only[bg,gC0,gC1,D1]
 | 1=>exact by simp only[bg,gC0,gC1,Dj]
 | 2=>exact by simp only[bg,gC0,gC1,Cv]
 | 3=>exact by simp only[bg,gC0,gC1,sz3]
 | _+4=>rfl) ps
@[go_sem] theorem FG (ps : List (Nat × Value)) : d3 Tryz.prog 144 ps = match cM (fun i => ([(0, 1), (1, 1)] : List (Nat × Nat))[i]?) [.int .i64 0, .int .i64 0] ps with | some c => some (.agg c.toArray) | none => none := fj EO Tryz.underlying144 (by kernel_rfl) (fun i => by
 match i with
 | 0=>exact by simp only[bg,gC0,gC1,sz3]
 | 1=>exact by simp only[bg,gC0,gC1,sz3]
 | _+2=>rfl) ps
@[go_sem] theorem xG (n : Nat) (hn : n <= 1000) (ps : List (Nat × Value)) : aY Tryz.prog 34 n ps = match cM (fun i => some (i * 1, 1)) (aC [.string ⟨#[]⟩] n) ps with | some c => some (.cells ⟨c, 9, 0, 0, false⟩, fun b => .slice (some ⟨b, 0, none⟩) n n) | none => none := cV Tryz.underlying34 sz9 z9 rfl (by decide) (by omega) ps
@[go_sem] theorem F7 (n : Nat) (hn : n <= 1000) (ps : List (Nat × Value)) : aY Tryz.prog 37 n ps = match cM (fun i => some (i * 3, 3)) (aC [.string ⟨#[]⟩, .string ⟨#[]⟩, .slice none 0 0] n) ps with | some c => some (.cells ⟨c, 44, 0, 0, false⟩, fun b => .slice (some ⟨b, 0, none⟩) n n) | none => none := cV Tryz.underlying37 BY z31 rfl (by decide) (by omega) ps
@[go_sem] theorem D2 (n : Nat) (hn : n <= 1000) (ps : List (Nat × Value)) : aY Tryz.prog 132 n ps = match cM (fun i => some (i * 1, 1)) (aC [.slice none 0 0] n) ps with | some c => some (.cells ⟨c, 58, 0, 0, false⟩, fun b => .slice (some ⟨b, 0, none⟩) n n) | none => none := cV Tryz.underlying132 pg Dm rfl (by decide) (by omega) ps
@[go_sem] theorem jS (l c : Nat) (hl : l <= c) (hc : c <= 1000) : fh Tryz.prog 58 (.int .i64 (l : Int)) (.int .i64 (c : Int)) = some (.cells ⟨aC [.bool false] c, 4, 0, 0, false⟩, fun b => .slice (some ⟨b, 0, none⟩) l c) := j7 Tryz.underlying58 sz4 z4 rfl (by decide) (by kernel_rfl) hl (by omega)
@[go_sem] theorem D3 (l c : Nat) (hl : l <= c) (hc : c <= 1000) : fh Tryz.prog 132 (.int .i64 (l : Int)) (.int .i64 (c : Int)) = some (.cells ⟨aC [.slice none 0 0] c, 58, 0, 0, false⟩, fun b => .slice (some ⟨b, 0, none⟩) l c) := j7 Tryz.underlying132 pg Dm rfl (by decide) (by kernel_rfl) hl (by omega)
end Go.Ev.Z24
end
section
namespace Go.Ev
open Go.RowKit
section
variable {P:Program} {ρ:Rho} {N:Bs} {h:Hp} {w:World}
theorem HR.wide (H:HR P ρ N h w) {w1:World} (B:Below w.heap.size w w1):HR P ρ N h w1 where
 obj b o i h1 h2 h3:=by
  obtain ⟨o',h4,h5⟩:=H.obj b o i h1 h2 h3
  exact ⟨o',by rw[B.block _ (H.lo b i h3).2];exact h4,h5⟩
 dom:=H.dom
 lo b i h1:=⟨(H.lo b i h1).1,lTl (H.lo b i h1).2 B.size⟩
 inj:=H.inj
 famlt:=H.famlt
 mem:=H.mem
 cover:=H.cover
 nf0:=H.nf0
 base:=lTr H.base B.size
 gho:=H.gho
 bn:=H.bn
 rid:=H.rid
 low:=H.low
 rom b k v hb hv:=by
  obtain ⟨v',h1,h2⟩:=H.rom b k v hb hv
  exact ⟨v',by rw[sk B (lTl hb (lTr H.bn H.base))];exact h1,h2⟩
theorem pz {f:FuncId} {fn:Func} {c:Code} (hf:P.funcs[f]? = some fn) (hb:fn.body=some c) (hname:(fn.name == "runtime.NumGoroutine")=false) {args:List Value} {v:Value}
  (ha:∀(ρ:Rho) (args':List Value),VRs ρ args args'->args'=args) (hv:∀ ρ:Rho,VR ρ v v)
  (hc:∀w,Calls P f args.toArray w fun e w'=>e=.returned v/\Below w.heap.size w w') (h:Hp):Snd P f args h v h:=by
 refine ⟨⟨fn,c,hf,hb,hname⟩,?_⟩
 intro ρ N w args' H hA
 rw[ha ρ args' hA]
 refine (hc w).mono ?_
 rintro e w' ⟨rfl,B⟩
 exact ⟨ρ,v,rfl,Rho.le_refl ρ,H.wide B,hv ρ,B.mono H.base⟩
theorem np {ρ:Rho} {s:ByteArray} {args':List Value} (h:VRs ρ [.string s] args'):args'=[.string s]:=by
 cases h with
 | cons h k =>
   cases k
   cases h
   rfl
end
end Go.Ev
end
section
namespace Go.Ev.Z24
open Go.RowKit Go.Proofs
section
def ls (w:World):Rho:=fun b=>if b<w.heap.size then some ⟨b,0,0,0,true⟩ else none
def fe:Value->Value
 | .slice (some a) n c=>if c=0 then .slice (some ⟨0,0,none⟩) n c else .slice (some a) n c
 | v=>v
open Classical in
noncomputable def roW (w:World):Ro:=⟨w.heap.size,fun b k=>match w.cell? ⟨b,k,none⟩ with
 | some v=>if VR (ls w) (fe v) v then some (fe v) else none
 | none=>none⟩
noncomputable def gT (w:World):Hp:=⟨.lf,w.heap.size,.lf,1,w.heap.size,(roW w).f⟩
theorem Dh (P:Program) (w:World):HR P (ls w) ⟨w.heap.size,fun _=>False⟩ (gT w) w:=by
 have hi:∀b i,ls w b=some i->b<w.heap.size/\i.b=b:=by
  intro b i h
  unfold ls at h
  split at h
  ·injection h with h
   subst h
   exact ⟨by assumption,rfl⟩
  ·cases h
 refine ⟨?_,?_,?_,?_,?_,?_,?_,?_,lRf _,fun _ hb=>hb.elim,lRf _,?_,?_,?_⟩
 ·intro b o i h
  simp[gT,Tr.get_lf] at h
 ·intro b i h
  exact (hi b i h).1
 ·intro b i h
  obtain ⟨h1,h2⟩:=hi b i h
  refine ⟨fun h3 => ?_,by rw[h2];exact h1⟩
  have h3:w.heap.size<=b:=h3
  omega
 ·intro b d i j h1 h2 hne e
  exact absurd (by rw[<-(hi b i h1).2,<-(hi d j h2).2,e]) hne
 ·intro b r' h
  simp[gT,Tr.get_lf] at h
 ·intro f l m h
  simp[gT,Tr.get_lf] at h
 ·intro b o h
  simp[gT,Tr.get_lf] at h
 ·exact lSs 0
 ·intro b h
  have h:b<w.heap.size:=h
  unfold ls
  rw[if_pos h]
 ·intro b o h
  simp[gT,Tr.get_lf] at h
 ·intro b k v hb hv
  have hv:(roW w).f b k=some v:=hv
  unfold roW at hv
  simp only at hv
  cases hc:w.cell? ⟨b,k,none⟩ with
  | none=>rw[hc] at hv;cases hv
  | some u =>
    rw[hc] at hv
    simp only at hv
    split at hv
    ·rename_i h1
     injection hv with hv
     subst hv
     exact ⟨u,rfl,h1⟩
    ·cases hv
theorem Ad {f:FuncId} {args args':List Value} {w:World} {b:Bool} {h1:Hp} (s:Snd Tryz.prog f args (gT w) (.bool b) h1) (hv:VRs (ls w) args args'):Calls Tryz.prog f args'.toArray w fun e w'=>e=.returned (.bool b)/\Below w.heap.size w w':=by
 refine (s.2 (ls w) ⟨w.heap.size,fun _=>False⟩ w args' (Dh Tryz.prog w) hv).mono ?_
 rintro e w1 ⟨ρ1,v',rfl,_,_,r3,r4⟩
 cases r3
 exact ⟨rfl,r4⟩
theorem qF {f:FuncId} {fn:Func} {c:Code} (hf:Tryz.prog.funcs[f]? = some fn) (hb:fn.body=some c) (hname:(fn.name == "runtime.NumGoroutine")=false) {args:List Value} {b:Bool}
  (ha:∀(ρ:Rho) (args':List Value),VRs ρ args args'->args'=args) (hs:∀ ρ:Rho,VRs ρ args args) (k:∀w,∃h1,Snd Tryz.prog f args (gT w) (.bool b) h1) (h:Hp):Snd Tryz.prog f args h (.bool b) h :=
 pz hf hb hname ha (fun _=>.bool _) (fun w=>let ⟨_,k1⟩:=k w;Ad k1 (hs _)) h
end
structure ad where
 d:ByteArray
 t:ByteArray
 l:List ad
inductive RoPart (r:Ro):ad->List Value->Prop
 | mk (d t:ByteArray) (l:List ad) (Av:Option Addr) (c b o:Nat) (css:Nat->List Value) (hc:l.length<=c) (hb:l.length<=9223372036854775807) (hA:l≠[]->Av=some ⟨b,o,none⟩)
  (hat:∀(i:Nat) (p:ad),l[i]? = some p->fS r b (o+i*3) (css i)) (hk:∀(i:Nat) (p:ad),l[i]? = some p->RoPart r p (css i)) (hs:spotless Av=true):RoPart r ⟨d,t,l⟩ [.string d,.string t,.slice Av l.length c]
theorem RoPart.shape {r:Ro} {p:ad} {cs:List Value} (h:RoPart r p cs):∃Av c,cs=[.string p.d,.string p.t,.slice Av p.l.length c]:=by
 cases h with
 | mk d t l Av c=>exact ⟨_,_,rfl⟩
theorem RoPart.same {r:Ro} {d t:ByteArray} {Av:Option Addr} {n c:Nat} {p:ad} (h:RoPart r p [.string d,.string t,.slice Av n c]):spotless Av=true:=by
 cases h with
 | mk d t l Av c b o css hc hb hA hat hk hs=>exact hs
theorem aO {α:Type} {l:List α} {i:Nat} (h:i<l.length):l≠[]:=by
 intro e;rw[e] at h;exact absurd h (lNz _)
mutual
def cD (em:ByteArray->Bool):ad->Bool
 | ⟨d,t,l⟩=>if d.data.toList=[105,115] then false else if d.data.toList=[97,110,121] then false else if d.data.toList=[114,117,108,101] then em t
   else if d.data.toList=[115,101,113] then eH em l else if d.data.toList=[111,114] then eX em l else true
def eH (em:ByteArray->Bool):List ad->Bool
 | []=>true
 | x::l=>cD em x&&eH em l
def eX (em:ByteArray->Bool):List ad->Bool
 | []=>false
 | x::l=>cD em x||eX em l
end
theorem fV (em:ByteArray->Bool):∀l:List ad,eH em l=true<->∀(i:Nat) (p:ad),l[i]? = some p->cD em p=true
 | []=>by simp[eH]
 | x::l=>by
   rw[eH,Bool.and_eq_true,fV em l]
   constructor
   ·rintro ⟨h1,h2⟩ i p hp
    cases i with
    | zero=>simp at hp;subst hp;exact h1
    | succ i=>exact h2 i p (by simpa using hp)
   ·exact fun h=>⟨h 0 x rfl,fun i p hp=>h (i+1) p (by simpa using hp)⟩
theorem fW (em:ByteArray->Bool):∀l:List ad,eX em l=false<->∀(i:Nat) (p:ad),l[i]? = some p->cD em p=false
 | []=>by simp[eX]
 | x::l=>by
   rw[eX,Bool.or_eq_false_iff,fW em l]
   constructor
   ·rintro ⟨h1,h2⟩ i p hp
    cases i with
    | zero=>simp at hp;subst hp;exact h1
    | succ i=>exact h2 i p (by simpa using hp)
   ·exact fun h=>⟨h 0 x rfl,fun i p hp=>h (i+1) p (by simpa using hp)⟩
def ae (names:List ByteArray) (s:ByteArray):Nat:=names.findIdx (fun x=>decide (x.data.toList=s.data.toList))
def dt:List ByteArray->Nat->List MapEntry
 | [],_=>[]
 | n::l,i=>⟨.string n,.int .i64 (i:Int),i⟩::dt l (i+1)
theorem eI (h:Hp) (s:ByteArray):∀(l:List ByteArray) (i k:Nat),fA Tryz.prog h 9 (.string s) (dt l i) k =
  some (if l.findIdx (fun x=>decide (x.data.toList=s.data.toList))<l.length then some (k+l.findIdx (fun x=>decide (x.data.toList=s.data.toList)),.int .i64 ((i+l.findIdx (fun x=>decide (x.data.toList=s.data.toList)):Nat):Int)) else none)
 | [],i,k=>by simp[dt,fA]
 | n::l,i,k=>by
   have he:eqv Tryz.prog h 40 9 (.string s) (.string n)=some (decide (n.data.toList=s.data.toList)):=by
    simp only[eqv,Tryz.underlying9,iR]
    congr 1
    rw[Bool.eq_iff_iff];simp[eq_comm]
   simp only[dt,fA,he,List.findIdx_cons]
   by_cases c:n.data.toList=s.data.toList
   ·simp[c]
   ·simp only[c,decide_false,cond_false,List.length_cons]
    rw[eI h s l (i+1) (k+1)]
    simp only[Nat.add_lt_add_iff_right]
    split
    ·rw[show k+1+List.findIdx (fun x=>decide (x.data.toList=s.data.toList)) l=k+(List.findIdx (fun x=>decide (x.data.toList=s.data.toList)) l+1) by omega,show i+1+List.findIdx (fun x=>decide (x.data.toList=s.data.toList)) l=i+(List.findIdx (fun x=>decide (x.data.toList=s.data.toList)) l+1) by omega]
    ·rfl
structure Book (h:Hp) (bk m eb:Nat) (G:Value) (names:List ByteArray) (em:List Bool):Prop where
 own:h.own bk 79 [G,.map (some m),.slice (some ⟨eb,0,none⟩) names.length names.length]
 row:h.own eb 4 (em.map .bool)
 len:em.length=names.length
 map:m<h.next/\h.objs.get m=some (.map (dt names 0) names.length)
theorem Book.ext {h h1:Hp} (x:Ext h h1) {bk m eb:Nat} {G:Value} {names:List ByteArray} {em:List Bool} (k:Book h bk m eb G names em):Book h1 bk m eb G names em :=
 ⟨aj x k.own,aj x k.row,k.len,lTl k.map.1 x.next,by rw[x.objs m k.map.1];exact k.map.2⟩
theorem Book.extS {S:Nat->Prop} {h h1:Hp} (x:ExtS S h h1) {bk m eb:Nat} {G:Value} {names:List ByteArray} {em:List Bool} (k:Book h bk m eb G names em) (h0:¬S bk) (h2:¬S m) (h3:¬S eb):Book h1 bk m eb G names em :=
 ⟨aJ x k.own h0,aJ x k.row h3,k.len,lTl k.map.1 x.next,by rw[x.objs m k.map.1 h2];exact k.map.2⟩
theorem Book.lookup {h:Hp} {bk m eb:Nat} {G:Value} {names:List ByteArray} {em:List Bool} (k:Book h bk m eb G names em) {s:ByteArray} (hs:ae names s<names.length) (ok:Bool) :
  dR Tryz.prog h 77 (.map (some m)) (.string s) ok=some (if ok then .tuple #[.int .i64 (ae names s:Int),.bool true] else .int .i64 (ae names s:Int)):=by
 have hm:h.map? m=some (dt names 0,names.length):=by simp only[Hp.map?,k.map.2]
 have hk:cH Tryz.prog 40 9 (.string s)=true:=by simp only[cH,Tryz.underlying9]
 have hf:=eI h s names 0 0
 unfold ae at hs
 rw[if_pos hs] at hf
 simp only[dR,Tryz.underlying77,ef,hm,hk,hf,Nat.zero_add]
 rfl
def yQ (d:ByteArray):Prop:=d.data.toList=[109,97,110,121]\/d.data.toList=[111,112,116]\/d.data.toList=[110,111,116]
mutual
def dm (names:List ByteArray):ad->Prop
 | ⟨d,t,l⟩=>(d.data.toList=[114,117,108,101]->ae names t<names.length)/\(yQ d->l.length=1)/\lN names l
def lN (names:List ByteArray):List ad->Prop
 | []=>True
 | x::l=>dm names x/\lN names l
end
theorem eY {names:List ByteArray}:∀{l:List ad},lN names l->∀(i:Nat) (p:ad),l[i]? = some p->dm names p
 | x::l,h,0,p,hp=>by simp at hp;subst hp;exact h.1
 | x::l,h,i+1,p,hp=>eY h.2 i p (by simpa using hp)
mutual
def fX (em:ByteArray->Bool):ad->Bool
 | ⟨d,t,l⟩=>(decide (d.data.toList=[109,97,110,121])&&kM em l)||gL em l
def gL (em:ByteArray->Bool):List ad->Bool
 | []=>false
 | x::l=>fX em x||gL em l
def kM (em:ByteArray->Bool):List ad->Bool
 | []=>false
 | x::_=>cD em x
end
theorem gM (em:ByteArray->Bool):∀l:List ad,gL em l=false<->∀(i:Nat) (p:ad),l[i]? = some p->fX em p=false
 | []=>by simp[gL]
 | x::l=>by
   rw[gL,Bool.or_eq_false_iff,gM em l]
   constructor
   ·rintro ⟨h1,h2⟩ i p hp
    cases i with
    | zero=>simp at hp;subst hp;exact h1
    | succ i=>exact h2 i p (by simpa using hp)
   ·exact fun h=>⟨h 0 x rfl,fun i p hp=>h (i+1) p (by simpa using hp)⟩
mutual
def du (em:ByteArray->Bool) (ix:ByteArray->Nat):ad->List Bool->List Bool
 | ⟨d,t,l⟩,bs=>bf em ix (decide (d.data.toList=[115,101,113])) l (if d.data.toList=[114,117,108,101] then bs.set (ix t) true else bs)
def bf (em:ByteArray->Bool) (ix:ByteArray->Nat) (sq:Bool):List ad->List Bool->List Bool
 | [],bs=>bs
 | x::l,bs=>if (sq && !cD em x)=true then du em ix x bs else bf em ix sq l (du em ix x bs)
end
mutual
theorem bY (em:ByteArray->Bool) (ix:ByteArray->Nat):∀(p:ad) (bs:List Bool),(du em ix p bs).length=bs.length
 | ⟨d,t,l⟩,bs=>by
   unfold du
   rw[ox em ix _ l]
   split<;>simp
theorem ox (em:ByteArray->Bool) (ix:ByteArray->Nat) (sq:Bool):∀(l:List ad) (bs:List Bool),(bf em ix sq l bs).length=bs.length
 | [],bs=>by simp[bf]
 | x::l,bs=>by
   unfold bf
   split
   ·exact bY em ix x bs
   ·rw[ox em ix sq l,bY em ix x bs]
end
section
def emf (names:List ByteArray) (em:List Bool) (t:ByteArray):Bool:=em.getD (ae names t) false
def DQ (r:Ro) (bk m eb:Nat) (G:Value) (names:List ByteArray) (em:List Bool) (p:ad):Prop:=∀(h:Hp) (cs:List Value),h.rom=r->h.base<=h.next->Book h bk m eb G names em->RoPart r p cs->dm names p ->
 ∃v h1,Snd Tryz.prog 81 [.pointer (some ⟨bk,0,none⟩),.agg cs.toArray] h v h1/\v=.bool (cD (emf names em) p)/\Ext h h1
variable {r:Ro} {bk m eb:Nat} {G:Value} {names:List ByteArray} {em:List Bool}
theorem zL:∀(n:Nat) (p:ad),SizeOf.sizeOf p<n->DQ r bk m eb G names em p:=by
 intro n
 induction n with
 | zero=>exact fun p hp=>absurd hp (lNz _)
 | succ n ihn =>
 rintro ⟨d,t,l⟩ hn h cs hrom hb hB hp hnm
 have ih:∀(i:Nat) (p:ad),l[i]? = some p->DQ r bk m eb G names em p:=fun i p hp=>ihn p (by
  have:=List.sizeOf_lt_of_mem (mOg hp)
  simp only[ad.mk.sizeOf_spec] at hn
  omega)
 have hnk:∀(i:Nat) (p:ad),l[i]? = some p->dm names p:=eY hnm.2.2
 cases hp with
 | mk _ _ _ Av c b o css hc hlb hA hat hk =>
 refine aL wf Tryz.func81 rfl rfl (n:=56) rfl (by kernel_rfl) rfl ?_
 intro a hn hg
 have hr:Tryz.f81.results.toList=[.tmp 4]:=rfl
 have g0:=hg 0
 have g1:=hg 1
 clear hg
 simp only[gC0,gC1] at g0 g1
 have hP:=an hb 48 [.string d,.string t,.slice Av l.length c]
 have hx0:=Ext.new h (ak.cells ⟨[.string d,.string t,.slice Av l.length c],48,0,0,false⟩)
 have hb1:(h.newH (ak.cells ⟨[.string d,.string t,.slice Av l.length c],48,0,0,false⟩)).base<=(h.newH (ak.cells ⟨[.string d,.string t,.slice Av l.length c],48,0,0,false⟩)).next:=Nat.le_succ_of_le hb
 by_cases c1:d.data.toList=[105,115]
 ·have k1:decide (d.data.toList=[105,115])=true:=by rw[c1];rfl
  have e:cD (emf names em) ⟨d,t,l⟩=false:=by unfold cD;rw[if_pos c1]
  simp -dsimp only[go_sem,g0,g1,aa hP,k1,hr,e]
  exact hx0
 have k1:decide (d.data.toList=[105,115])=false:=dcF c1
 by_cases c2:d.data.toList=[97,110,121]
 ·have k2:decide (d.data.toList=[97,110,121])=true:=by rw[c2];rfl
  have e:cD (emf names em) ⟨d,t,l⟩=false:=by unfold cD;rw[if_neg c1,if_pos c2]
  simp -dsimp only[go_sem,g0,g1,aa hP,k1,k2,hr,e]
  exact hx0
 have k2:decide (d.data.toList=[97,110,121])=false:=dcF c2
 by_cases c3:d.data.toList=[114,117,108,101]
 ·have k3:decide (d.data.toList=[114,117,108,101])=true:=by rw[c3];rfl
  have e:cD (emf names em) ⟨d,t,l⟩=emf names em t:=by unfold cD;rw[if_neg c1,if_neg c2,if_pos c3]
  have hB1:=hB.ext hx0
  have hidx:ae names t<names.length:=hnm.1 c3
  have hidx2:ae names t<em.length:=by rw[hB1.len];exact hidx
  have hem:(em.map Value.bool)[ae names t]? = some (.bool (emf names em t)):=by
   simp only[List.getElem?_map,emf,List.getD_eq_getElem?_getD,gEl hidx2,Option.map_some,Option.getD_some]
  simp -dsimp only[go_sem,g0,g1,aa hP,k1,k2,k3,hr,e]
  refine iN (n:=56) (by simp -dsimp only[go_sem,hn]) (by kernel_rfl) (by kernel_rfl) ?_
  simp -dsimp only[go_sem,ep,g0,g1,aa hP,aa hB1.own,aa hB1.row,hB1.lookup hidx,bM hidx,hem,hr,e]
  exact hx0
 have k3:decide (d.data.toList=[114,117,108,101])=false:=dcF c3
 by_cases c4:d.data.toList=[115,101,113]
 ·have k4:decide (d.data.toList=[115,101,113])=true:=by rw[c4];rfl
  have e:cD (emf names em) ⟨d,t,l⟩=eH (emf names em) l:=by unfold cD;rw[if_neg c1,if_neg c2,if_neg c3,if_pos c4]
  simp -dsimp only[go_sem,g0,g1,aa hP,k1,k2,k3,k4,hr,e]
  generalize h.newH (ak.cells ⟨[.string d,.string t,.slice Av l.length c],48,0,0,false⟩)=h1 at *
  refine au (n:=56) (by kernel_rfl) (fun m' a' h'=>∃i:Nat,i<=l.length/\m'=l.length - i/\Ext h1 h'/\a'.get 0=.pointer (some ⟨bk,0,none⟩)/\a'.get 32=.slice Av l.length c/\a'.get 33=.int .i64 l.length/\a'.get 34=.int .i64 i/\∀(j:Nat) (p:ad),j<i->l[j]? = some p->cD (emf names em) p=true) ?_ l.length _ _ ?_ ?_
  ·rintro m' a' h' hn' ⟨i,hi,rfl,hx,e0,e32,e33,e34,hall⟩
   have hrom':h'.rom=r:=(hx.rom.trans hx0.rom).trans hrom
   have hb':h'.base<=h'.next:=by rw[hx.base];exact lTr hb1 hx.next
   by_cases hlt:i<l.length
   ·have hpi:l[i]? = some l[i]:=gEl hlt
    have hi1:decide ((i:Int)<(l.length:Int))=true:=dcT (Int.ofNat_lt.2 hlt)
    obtain ⟨Av1,c1',hcs⟩:=(hk i _ hpi).shape
    have hat':=hat i _ hpi
    have hkid:=hk i _ hpi
    rw[hcs] at hat' hkid
    rw[hA (aO hlt)] at e32
    obtain ⟨vS,vO,vX,vB,vR⟩:=gE hb' (e:=48) (c0:=[.string ⟨#[]⟩,.string ⟨#[]⟩,.slice none 0 0]) (c1:=[.string l[i].d,.string l[i].t,.slice Av1 l[i].l.length c1']) rfl rfl (by simp)
    simp -dsimp only[go_sem,e0,e32,e33,e34,hi1,eR hlt,az (n:=3) hrom' hat' rfl,vS,af vO]
    obtain ⟨_,h2,hs,rfl,hx2⟩:=ih i _ hpi _ _ (vR.trans hrom') vB (hB.ext (hx0.trans (hx.trans vX))) hkid (hnk i _ hpi)
    refine ⟨_,h2,hs,?_⟩
    simp -dsimp only[go_sem]
    refine aT (fun hm => ?_) (fun hm => ?_)
    ·simp -dsimp only[go_sem,hr,e]
     refine ⟨?_,hx0.trans (hx.trans (vX.trans hx2))⟩
     cases hq:eH (emf names em) l with
      | false=>rfl
      | true=>rw[(fV _ l).1 hq i _ hpi] at hm;cases hm
    ·simp -dsimp only[go_sem,e0,e32,e33,e34,ah hlt hlb]
     refine ⟨l.length - (i+1),by omega,i+1,hlt,rfl,hx.trans (vX.trans hx2),by rw[hA (aO hlt)],rfl,fun j p hj hp => ?_⟩
     rcases Nat.lt_succ_iff_lt_or_eq.1 hj with h|h
     ·exact hall j p h hp
     ·subst h;rw[hpi] at hp;injection hp with hp;subst hp;simpa using hm
   ·have hi0:decide ((i:Int)<(l.length:Int))=false:=dcF (by omega)
    have hall':eH (emf names em) l=true:=(fV _ l).2 fun j p hp=>hall j p (by have:=(List.getElem?_eq_some_iff.1 hp).1;omega) hp
    simp -dsimp only[go_sem,e33,e34,hi0,hr,e,hall']
    exact hx0.trans hx
  ·simp only[A.set_n,hn]
  ·refine ⟨0,lZr _,rfl,Ext.refl _,?_⟩
   simp -dsimp only[go_sem,g0]
   exact ⟨rfl,fun j p hj=>absurd hj (lNz _)⟩
 have k4:decide (d.data.toList=[115,101,113])=false:=dcF c4
 by_cases c5:d.data.toList=[111,114]
 ·have k5:decide (d.data.toList=[111,114])=true:=by rw[c5];rfl
  have e:cD (emf names em) ⟨d,t,l⟩=eX (emf names em) l:=by unfold cD;rw[if_neg c1,if_neg c2,if_neg c3,if_neg c4,if_pos c5]
  simp -dsimp only[go_sem,g0,g1,aa hP,k1,k2,k3,k4,k5,hr,e]
  generalize h.newH (ak.cells ⟨[.string d,.string t,.slice Av l.length c],48,0,0,false⟩)=h1 at *
  refine au (n:=56) (by kernel_rfl) (fun m' a' h'=>∃i:Nat,i<=l.length/\m'=l.length - i/\Ext h1 h'/\a'.get 0=.pointer (some ⟨bk,0,none⟩)/\a'.get 46=.slice Av l.length c/\a'.get 47=.int .i64 l.length/\a'.get 48=.int .i64 i/\∀(j:Nat) (p:ad),j<i->l[j]? = some p->cD (emf names em) p=false) ?_ l.length _ _ ?_ ?_
  ·rintro m' a' h' hn' ⟨i,hi,rfl,hx,e0,e32,e33,e34,hall⟩
   have hrom':h'.rom=r:=(hx.rom.trans hx0.rom).trans hrom
   have hb':h'.base<=h'.next:=by rw[hx.base];exact lTr hb1 hx.next
   by_cases hlt:i<l.length
   ·have hpi:l[i]? = some l[i]:=gEl hlt
    have hi1:decide ((i:Int)<(l.length:Int))=true:=dcT (Int.ofNat_lt.2 hlt)
    obtain ⟨Av1,c1',hcs⟩:=(hk i _ hpi).shape
    have hat':=hat i _ hpi
    have hkid:=hk i _ hpi
    rw[hcs] at hat' hkid
    rw[hA (aO hlt)] at e32
    obtain ⟨vS,vO,vX,vB,vR⟩:=gE hb' (e:=48) (c0:=[.string ⟨#[]⟩,.string ⟨#[]⟩,.slice none 0 0]) (c1:=[.string l[i].d,.string l[i].t,.slice Av1 l[i].l.length c1']) rfl rfl (by simp)
    simp -dsimp only[go_sem,e0,e32,e33,e34,hi1,eR hlt,az (n:=3) hrom' hat' rfl,vS,af vO]
    obtain ⟨_,h2,hs,rfl,hx2⟩:=ih i _ hpi _ _ (vR.trans hrom') vB (hB.ext (hx0.trans (hx.trans vX))) hkid (hnk i _ hpi)
    refine ⟨_,h2,hs,?_⟩
    simp -dsimp only[go_sem]
    refine aT (fun hm => ?_) (fun hm => ?_)
    ·simp -dsimp only[go_sem,hr,e]
     refine ⟨?_,hx0.trans (hx.trans (vX.trans hx2))⟩
     cases hq:eX (emf names em) l with
      | true=>rfl
      | false=>rw[(fW _ l).1 hq i _ hpi] at hm;cases hm
    ·simp -dsimp only[go_sem,e0,e32,e33,e34,ah hlt hlb]
     refine ⟨l.length - (i+1),by omega,i+1,hlt,rfl,hx.trans (vX.trans hx2),by rw[hA (aO hlt)],rfl,fun j p hj hp => ?_⟩
     rcases Nat.lt_succ_iff_lt_or_eq.1 hj with h|h
     ·exact hall j p h hp
     ·subst h;rw[hpi] at hp;injection hp with hp;subst hp;simpa using hm
   ·have hi0:decide ((i:Int)<(l.length:Int))=false:=dcF (by omega)
    have hall':eX (emf names em) l=false:=(fW _ l).2 fun j p hp=>hall j p (by have:=(List.getElem?_eq_some_iff.1 hp).1;omega) hp
    simp -dsimp only[go_sem,e33,e34,hi0,hr,e,hall']
    exact hx0.trans hx
  ·simp only[A.set_n,hn]
  ·refine ⟨0,lZr _,rfl,Ext.refl _,?_⟩
   simp -dsimp only[go_sem,g0]
   exact ⟨rfl,fun j p hj=>absurd hj (lNz _)⟩
 have k5:decide (d.data.toList=[111,114])=false:=dcF c5
 have e:cD (emf names em) ⟨d,t,l⟩=true:=by unfold cD;rw[if_neg c1,if_neg c2,if_neg c3,if_neg c4,if_neg c5]
 simp -dsimp only[go_sem,g0,g1,aa hP,k1,k2,k3,k4,k5,hr,e]
 exact hx0
end
section
variable {r:Ro} {bk m eb:Nat} {G:Value} {names:List ByteArray} {em:List Bool}
def zM (r:Ro) (bk m eb:Nat) (G:Value) (names:List ByteArray) (em:List Bool) (p:ad):Prop:=∀(h:Hp) (cs:List Value),h.rom=r->h.base<=h.next->Book h bk m eb G names em->RoPart r p cs->dm names p ->
 ∃v h1,Snd Tryz.prog 84 [.pointer (some ⟨bk,0,none⟩),.agg cs.toArray] h v h1/\v=.bool (fX (emf names em) p)/\Ext h h1
theorem qw {l:List ad} {Av:Option Addr} {c b o:Nat} {css:Nat->List Value} (ih:∀(i:Nat) (p:ad),l[i]? = some p->zM r bk m eb G names em p) (hnk:∀(i:Nat) (p:ad),l[i]? = some p->dm names p)
  (hlb:l.length<=9223372036854775807) (hA:l≠[]->Av=some ⟨b,o,none⟩) (hat:∀(i:Nat) (p:ad),l[i]? = some p->fS r b (o+i*3) (css i)) (hk:∀(i:Nat) (p:ad),l[i]? = some p->RoPart r p (css i))
  {a:Ev.A} {h1:Hp} {Q:Ex->Ev.A->Hp->Prop} (hn:a.n=29) (hrom:h1.rom=r) (hb1:h1.base<=h1.next) (hB:Book h1 bk m eb G names em)
  (g0:a.get 0=.pointer (some ⟨bk,0,none⟩)) (g19:a.get 19=.slice Av l.length c) (g20:a.get 20=.int .i64 l.length) (g21:a.get 21=.int .i64 0)
  (hq0:∀a1 h2,Ext h1 h2->gL (emf names em) l=false->Q (.exit 0) a1 h2) (hq1:∀a1 h2,Ext h1 h2->gL (emf names em) l=true->a1.get 4=.bool true->Q .ret a1 h2):Th Tryz.prog (aw Tryz.f84 [1,1,0,1,0]) a h1 Q ⟨⟩ ⟨⟩:=by
 simp only[aw,nav,Tryz.f84]
 refine au (n:=29) (by kernel_rfl) (fun m' a' h'=>∃i:Nat,i<=l.length/\m'=l.length - i/\Ext h1 h'/\a'.get 0=.pointer (some ⟨bk,0,none⟩)/\a'.get 19=.slice Av l.length c/\a'.get 20=.int .i64 l.length/\a'.get 21=.int .i64 i/\∀(j:Nat) (p:ad),j<i->l[j]? = some p->fX (emf names em) p=false) ?_ l.length _ _ hn ⟨0,lZr _,rfl,Ext.refl _,g0,g19,g20,g21,fun j p hj=>absurd hj (lNz _)⟩
 rintro m' a' h' hn' ⟨i,hi,rfl,hx,e0,e19,e20,e21,hall⟩
 have hrom':h'.rom=r:=hx.rom.trans hrom
 have hb':h'.base<=h'.next:=by rw[hx.base];exact lTr hb1 hx.next
 by_cases hlt:i<l.length
 ·have hpi:l[i]? = some l[i]:=gEl hlt
  have hi1:decide ((i:Int)<(l.length:Int))=true:=dcT (Int.ofNat_lt.2 hlt)
  obtain ⟨Av1,c1',hcs⟩:=(hk i _ hpi).shape
  have hat':=hat i _ hpi
  have hkid:=hk i _ hpi
  rw[hcs] at hat' hkid
  rw[hA (aO hlt)] at e19
  obtain ⟨vS,vO,vX,vB,vR⟩:=gE hb' (e:=48) (c0:=[.string ⟨#[]⟩,.string ⟨#[]⟩,.slice none 0 0]) (c1:=[.string l[i].d,.string l[i].t,.slice Av1 l[i].l.length c1']) rfl rfl (by simp)
  simp -dsimp only[go_sem,e0,e19,e20,e21,hi1,eR hlt,az (n:=3) hrom' hat' rfl,vS,af vO]
  obtain ⟨_,h2,hs,rfl,hx2⟩:=ih i _ hpi _ _ (vR.trans hrom') vB (hB.ext (hx.trans vX)) hkid (hnk i _ hpi)
  refine ⟨_,h2,hs,?_⟩
  simp -dsimp only[go_sem]
  refine aT (fun hm => ?_) (fun hm => ?_)
  ·simp -dsimp only[go_sem]
   refine hq1 _ _ (hx.trans (vX.trans hx2)) ?_ (by simp -dsimp only[go_sem])
   cases hq:gL (emf names em) l with
   | true=>rfl
   | false=>rw[(gM _ l).1 hq i _ hpi] at hm;cases hm
  ·simp -dsimp only[go_sem,e0,e19,e20,e21,ah hlt hlb]
   refine ⟨l.length - (i+1),by omega,i+1,hlt,rfl,hx.trans (vX.trans hx2),by rw[hA (aO hlt)],rfl,fun j p hj hp => ?_⟩
   rcases Nat.lt_succ_iff_lt_or_eq.1 hj with h|h
   ·exact hall j p h hp
   ·subst h;rw[hpi] at hp;injection hp with hp;subst hp;exact hm
 ·have hi0:decide ((i:Int)<(l.length:Int))=false:=dcF (by omega)
  simp -dsimp only[go_sem,e20,e21,hi0]
  exact hq0 _ _ hx ((gM _ l).2 fun j p hp=>hall j p (by have:=(List.getElem?_eq_some_iff.1 hp).1;omega) hp)
theorem Da:∀(n:Nat) (p:ad),SizeOf.sizeOf p<n->zM r bk m eb G names em p:=by
 intro n
 induction n with
 | zero=>exact fun p hp=>absurd hp (lNz _)
 | succ n ihn =>
 rintro ⟨d,t,l⟩ hn h cs hrom hb hB hp hnm
 have ih:∀(i:Nat) (p:ad),l[i]? = some p->zM r bk m eb G names em p:=fun i p hp=>ihn p (by
  have:=List.sizeOf_lt_of_mem (mOg hp)
  simp only[ad.mk.sizeOf_spec] at hn
  omega)
 have hnk:∀(i:Nat) (p:ad),l[i]? = some p->dm names p:=eY hnm.2.2
 cases hp with
 | mk _ _ _ Av c b o css hc hlb hA hat hk =>
 refine aL wf Tryz.func84 rfl rfl (n:=29) rfl (by kernel_rfl) rfl ?_
 intro a hn hg
 have hr:Tryz.f84.results.toList=[.tmp 4]:=rfl
 have g0:=hg 0
 have g1:=hg 1
 clear hg
 simp only[gC0,gC1] at g0 g1
 have hP:=an hb 48 [.string d,.string t,.slice Av l.length c]
 have hx0:=Ext.new h (ak.cells ⟨[.string d,.string t,.slice Av l.length c],48,0,0,false⟩)
 have hb1:(h.newH (ak.cells ⟨[.string d,.string t,.slice Av l.length c],48,0,0,false⟩)).base<=(h.newH (ak.cells ⟨[.string d,.string t,.slice Av l.length c],48,0,0,false⟩)).next:=Nat.le_succ_of_le hb
 have e:fX (emf names em) ⟨d,t,l⟩=((decide (d.data.toList=[109,97,110,121])&&kM (emf names em) l)||gL (emf names em) l):=by unfold fX;rfl
 by_cases c1:d.data.toList=[109,97,110,121]
 ·have k1:decide (d.data.toList=[109,97,110,121])=true:=by rw[c1];rfl
  have hl1:l.length=1:=hnm.2.1 (.inl c1)
  have hlt:0<l.length:=by omega
  have hpi:l[0]? = some l[0]:=gEl hlt
  obtain ⟨Av1,c1',hcs⟩:=(hk 0 _ hpi).shape
  have hat':=hat 0 _ hpi
  have hkid:=hk 0 _ hpi
  rw[hcs] at hat' hkid
  have hA':=hA (aO hlt)
  subst hA'
  have hia:=eR (b:=b) (o:=o) (c:=c) (n:=l.length) hlt
  simp only[Nat.zero_mul,Nat.add_zero] at hia hat'
  rw[show ((0:Nat):Int)=0 from rfl] at hia
  simp -dsimp only[go_sem,g0,g1,aa hP,k1,hia,az (n:=3) (hx0.rom.trans hrom) hat' rfl]
  obtain ⟨_,h2,hs,rfl,hx2⟩:=zL _ l[0] (lSs _) _ _ (hx0.rom.trans hrom) hb1 (hB.ext hx0) hkid (hnk 0 _ hpi)
  refine ⟨_,h2,hs,?_⟩
  have hP2:=aj hx2 hP
  have hmh:kM (emf names em) l=cD (emf names em) l[0]:=by
   match l,hlt with
   | x::l,_=>rfl
  simp -dsimp only[go_sem]
  refine aT (fun hm => ?_) (fun hm => ?_)
  ·simp -dsimp only[go_sem,hr,e,k1,hmh,hm,Bool.true_and,Bool.true_or]
   exact hx0.trans hx2
  simp -dsimp only[go_sem,g0,aa hP2]
  refine qw (l:=l) (c:=c) ih hnk hlb hA hat hk (by simp -dsimp only[go_sem,hn]) ((hx0.trans hx2).rom.trans hrom) (by rw[hx2.base];exact lTr hb1 hx2.next) (hB.ext (hx0.trans hx2)) (by simp -dsimp only[go_sem,g0]) (by simp -dsimp only[go_sem]) (by simp -dsimp only[go_sem]) (by simp -dsimp only[go_sem]) (fun a1 h3 hx3 hf => ?_) (fun a1 h3 hx3 hf h4 => ?_)
  ·simp -dsimp only[go_sem,hr,e,k1,hmh,hm,hf,Bool.true_and,Bool.false_or]
   exact (hx0.trans hx2).trans hx3
  ·simp -dsimp only[go_sem,hr,e,k1,hmh,hm,hf,h4,Bool.true_and,Bool.false_or]
   exact (hx0.trans hx2).trans hx3
 ·have k1:decide (d.data.toList=[109,97,110,121])=false:=dcF c1
  simp -dsimp only[go_sem,g0,g1,aa hP,k1]
  refine qw (l:=l) (c:=c) ih hnk hlb hA hat hk (by simp -dsimp only[go_sem,hn]) (hx0.rom.trans hrom) hb1 (hB.ext hx0) (by simp -dsimp only[go_sem,g0]) (by simp -dsimp only[go_sem]) (by simp -dsimp only[go_sem]) (by simp -dsimp only[go_sem]) (fun a1 h3 hx3 hf => ?_) (fun a1 h3 hx3 hf h4 => ?_)
  ·simp -dsimp only[go_sem,hr,e,k1,hf,Bool.false_and,Bool.false_or]
   exact hx0.trans hx3
  ·simp -dsimp only[go_sem,hr,e,k1,hf,h4,Bool.false_and,Bool.false_or]
   exact hx0.trans hx3
end
section
variable {r:Ro} {bk m eb:Nat} {G:Value} {names:List ByteArray} {em:List Bool}
def aR (b:Nat):Nat->Prop:=fun x=>x=b
def uP (r:Ro) (bk m eb tb:Nat) (G:Value) (names:List ByteArray) (em:List Bool) (p:ad):Prop:=∀(h:Hp) (cs:List Value) (bs:List Bool),h.rom=r->h.base<=h.next->Book h bk m eb G names em->RoPart r p cs->dm names p ->
 h.own tb 4 (bs.map .bool)->bs.length=names.length ->
 ∃v h1,Snd Tryz.prog 83 [.pointer (some ⟨bk,0,none⟩),.agg cs.toArray,.slice (some ⟨tb,0,none⟩) names.length names.length] h v h1/\v=.tuple #[]/\ExtS (aR tb) h h1/\h1.own tb 4 ((du (emf names em) (ae names) p bs).map .bool)
theorem bG {S:Nat->Prop} {h h1:Hp} (x:ExtS S h h1) (hr:h.rom=r):h1.rom=r:=by rw[x.rom];exact hr
theorem de {S:Nat->Prop} {h h1:Hp} (x:ExtS S h h1) (hb:h.base<=h.next):h1.base<=h1.next:=by rw[x.base];exact lTr hb x.next
theorem pc {tb:Nat} (ht0:bk≠tb) (ht1:m≠tb) (ht2:eb≠tb) {d t:ByteArray} {l:List ad} {pb:Nat} {Av:Option Addr} {c b o:Nat} {css:Nat->List Value} (ih:∀(i:Nat) (p:ad),l[i]? = some p->uP r bk m eb tb G names em p) (hnk:∀(i:Nat) (p:ad),l[i]? = some p->dm names p)
  (hlb:l.length<=9223372036854775807) (hA:l≠[]->Av=some ⟨b,o,none⟩) (hat:∀(i:Nat) (p:ad),l[i]? = some p->fS r b (o+i*3) (css i)) (hk:∀(i:Nat) (p:ad),l[i]? = some p->RoPart r p (css i))
  {a:Ev.A} {h1:Hp} {Q:Ex->Ev.A->Hp->Prop} (hn:a.n=41) (hrom:h1.rom=r) (hb1:h1.base<=h1.next) (hB:Book h1 bk m eb G names em) {bs:List Bool} (hbs:h1.own tb 4 (bs.map .bool)) (hbl:bs.length=names.length)
  (hpt:pb≠tb) (hP:h1.own pb 48 [.string d,.string t,.slice Av l.length c])
  (g0:a.get 0=.pointer (some ⟨bk,0,none⟩)) (g2:a.get 2=.slice (some ⟨tb,0,none⟩) names.length names.length) (g4:a.get 4=.pointer (some ⟨pb,0,none⟩)) (g21:a.get 21=.slice Av l.length c) (g22:a.get 22=.int .i64 l.length) (g23:a.get 23=.int .i64 0)
  (hq0:∀a1 h2,ExtS (aR tb) h1 h2->h2.own tb 4 ((bf (emf names em) (ae names) (decide (d.data.toList=[115,101,113])) l bs).map .bool)->Q (.exit 0) a1 h2)
  (hq1:∀a1 h2,ExtS (aR tb) h1 h2->h2.own tb 4 ((bf (emf names em) (ae names) (decide (d.data.toList=[115,101,113])) l bs).map .bool)->Q .ret a1 h2):Th Tryz.prog (aw Tryz.f83 [1,1,1,0]) a h1 Q ⟨⟩ ⟨⟩:=by
 simp only[aw,nav,Tryz.f83]
 refine au (n:=41) (by kernel_rfl) (fun m' a' h'=>∃(i:Nat) (bs':List Bool),i<=l.length/\m'=l.length - i/\ExtS (aR tb) h1 h'/\h'.own tb 4 (bs'.map .bool)/\bs'.length=names.length/\bf (emf names em) (ae names) (decide (d.data.toList=[115,101,113])) (l.drop i) bs'=bf (emf names em) (ae names) (decide (d.data.toList=[115,101,113])) l bs /\
  a'.get 0=.pointer (some ⟨bk,0,none⟩)/\a'.get 2=.slice (some ⟨tb,0,none⟩) names.length names.length/\a'.get 4=.pointer (some ⟨pb,0,none⟩)/\a'.get 21=.slice Av l.length c/\a'.get 22=.int .i64 l.length/\a'.get 23=.int .i64 i) ?_ l.length _ _ hn ⟨0,bs,lZr _,rfl,(Ext.refl _).toS,hbs,hbl,by rw[List.drop_zero],g0,g2,g4,g21,g22,g23⟩
 rintro m' a' h' hn' ⟨i,bs',hi,rfl,hx,hown,hbl',hst,e0,e2,e4,e21,e22,e23⟩
 have hrom':h'.rom=r:=bG hx hrom
 have hb':h'.base<=h'.next:=by rw[hx.base];exact lTr hb1 hx.next
 have hB':=hB.extS hx ht0 ht1 ht2
 by_cases hlt:i<l.length
 ·have hpi:l[i]? = some l[i]:=gEl hlt
  have hi1:decide ((i:Int)<(l.length:Int))=true:=dcT (Int.ofNat_lt.2 hlt)
  obtain ⟨Av1,c1',hcs⟩:=(hk i _ hpi).shape
  have hat':=hat i _ hpi
  have hkid:=hk i _ hpi
  rw[hcs] at hat' hkid
  have hAv:=hA (aO hlt)
  subst hAv
  obtain ⟨vS,vO,vX,vB,vR⟩:=gE hb' (e:=48) (c0:=[.string ⟨#[]⟩,.string ⟨#[]⟩,.slice none 0 0]) (c1:=[.string l[i].d,.string l[i].t,.slice Av1 l[i].l.length c1']) rfl rfl (by simp)
  simp -dsimp only[go_sem,e0,e2,e4,e21,e22,e23,hi1,eR hlt,az (n:=3) hrom' hat' rfl,vS,af vO]
  obtain ⟨_,h2,hs,rfl,hx2,hown2⟩:=ih i _ hpi _ _ bs' (vR.trans hrom') vB (hB'.ext vX) hkid (hnk i _ hpi) (aj vX hown) hbl'
  refine ⟨_,h2,hs,?_⟩
  have hx3:ExtS (aR tb) h1 h2:=hx.trans (vX.toS.trans hx2)
  have hP2:=aJ hx3 hP hpt
  have hvn:h'.next≠tb:=Nat.ne_of_gt hown.2.1
  have vO2:=aJ hx2 vO hvn
  have hB2:=hB.extS hx3 ht0 ht1 ht2
  have hdr:l.drop i=l[i]::l.drop (i+1):=List.drop_eq_getElem_cons hlt
  rw[hdr,bf] at hst
  by_cases csq:d.data.toList=[115,101,113]
  ·have k1:decide (d.data.toList=[115,101,113])=true:=dcT csq
   simp -dsimp only[go_sem,e0,e2,e4,e21,e22,e23,aa hP2,af vO2,k1]
   obtain ⟨_,h4,hs4,rfl,hx4⟩:=zL _ l[i] (lSs _) _ _ (bG hx3 hrom) (de hx3 hb1) hB2 hkid (hnk i _ hpi)
   refine ⟨_,h4,hs4,?_⟩
   have hx5:ExtS (aR tb) h1 h4:=hx3.trans hx4.toS
   simp -dsimp only[go_sem]
   rw[k1,Bool.true_and] at hst
   refine aT (fun hm => ?_) (fun hm => ?_)
   ·simp -dsimp only[go_sem]
    refine hq1 _ _ hx5 ?_
    rw[k1,<-hst,if_pos hm]
    exact aj hx4 hown2
   ·simp -dsimp only[go_sem,e0,e2,e4,e21,e22,e23,ah hlt hlb]
    rw[if_neg (by rw[hm];simp)] at hst
    exact ⟨l.length - (i+1),by omega,i+1,_,hlt,rfl,hx5,aj hx4 hown2,(bY _ _ _ _).trans hbl',by rw[k1];exact hst,rfl⟩
  ·have k1:decide (d.data.toList=[115,101,113])=false:=dcF csq
   simp -dsimp only[go_sem,e0,e2,e4,e21,e22,e23,aa hP2,af vO2,k1,ah hlt hlb]
   rw[k1,Bool.false_and,if_neg (by simp)] at hst
   exact ⟨l.length - (i+1),by omega,i+1,_,hlt,rfl,hx3,hown2,(bY _ _ _ _).trans hbl',hst,rfl⟩
 ·have hi0:decide ((i:Int)<(l.length:Int))=false:=dcF (by omega)
  simp -dsimp only[go_sem,e22,e23,hi0]
  refine hq0 _ _ hx ?_
  rw[<-hst,List.drop_eq_nil_of_le (by omega),bf]
  exact hown
theorem dP {bs:List Bool} {k:Nat} (hk:k<bs.length):bC (bs.map Value.bool) k [.bool true]=some ((bs.set k true).map .bool):=by
 induction bs generalizing k with
 | nil=>exact absurd hk (lNz _)
 | cons x bs ih =>
   cases k with
   | zero=>cases bs<;>rfl
   | succ k=>simp only[List.map_cons,bC,ih (Nat.lt_of_succ_lt_succ hk),List.set_cons_succ]
theorem BI {tb:Nat} (ht0:bk≠tb) (ht1:m≠tb) (ht2:eb≠tb):∀(n:Nat) (p:ad),SizeOf.sizeOf p<n->uP r bk m eb tb G names em p:=by
 intro n
 induction n with
 | zero=>exact fun p hp=>absurd hp (lNz _)
 | succ n ihn =>
 rintro ⟨d,t,l⟩ hn h cs bs hrom hb hB hp hnm hown hbl
 have ih:∀(i:Nat) (p:ad),l[i]? = some p->uP r bk m eb tb G names em p:=fun i p hp=>ihn p (by
  have:=List.sizeOf_lt_of_mem (mOg hp)
  simp only[ad.mk.sizeOf_spec] at hn
  omega)
 have hnk:∀(i:Nat) (p:ad),l[i]? = some p->dm names p:=eY hnm.2.2
 cases hp with
 | mk _ _ _ Av c b o css hc hlb hA hat hk =>
 refine aL wf Tryz.func83 rfl rfl (n:=41) rfl (by kernel_rfl) rfl ?_
 intro a hn hg
 have hr:Tryz.f83.results.toList=[]:=rfl
 have g0:=hg 0
 have g1:=hg 1
 have g2:=hg 2
 clear hg
 simp only[gC0,gC1] at g0 g1 g2
 have hP:=an hb 48 [.string d,.string t,.slice Av l.length c]
 have hx0:=Ext.new h (ak.cells ⟨[.string d,.string t,.slice Av l.length c],48,0,0,false⟩)
 have hb1:=Nat.le_succ_of_le (m:=h.next) hb
 have hpt:h.next≠tb:=Nat.ne_of_gt hown.2.1
 by_cases c1:d.data.toList=[114,117,108,101]
 ·have k1:decide (d.data.toList=[114,117,108,101])=true:=dcT c1
  have hidx:ae names t<names.length:=hnm.1 c1
  have hB1:=hB.ext hx0
  have hown1:=aj hx0 hown
  have hsto:=aE hown1 (o:=ae names t) (vs:=[.bool true]) rfl (dP (by rw[hbl];exact hidx)) (by simp)
  simp -dsimp only[go_sem,g0,g1,aa hP,k1]
  refine qV (n:=41) (by simp -dsimp only[go_sem,hn]) (by kernel_rfl) ?_
  simp -dsimp only[go_sem,g0,g1,g2,aa hP,aa hB1.own,hB1.lookup hidx,bM hidx,hsto]
  have hx1:ExtS (aR tb) h _:=(hx0.toS (S:=aR tb)).put (b:=tb) (.inr rfl) (.cells ⟨(bs.set (ae names t) true).map .bool,4,0,0,false⟩)
  have e:du (emf names em) (ae names) ⟨d,t,l⟩ bs=bf (emf names em) (ae names) (decide (d.data.toList=[115,101,113])) l (bs.set (ae names t) true):=by unfold du;rw[if_pos c1]
  have hP2:=dV hP hpt (.cells ⟨(bs.set (ae names t) true).map .bool,4,0,0,false⟩)
  simp -dsimp only[go_sem,aa hP2]
  refine pc ht0 ht1 ht2 (l:=l) (c:=c) (d:=d) (t:=t) (pb:=h.next) ih hnk hlb hA hat hk (by simp -dsimp only[go_sem,hn]) (bG hx1 hrom) (de hx1 hb) (hB.extS hx1 ht0 ht1 ht2) (bs:=bs.set (ae names t) true) (av hown1 _) (by simp[hbl]) hpt hP2 (by simp -dsimp only[go_sem,g0]) (by simp -dsimp only[go_sem,g2]) (by simp -dsimp only[go_sem]) (by simp -dsimp only[go_sem]) (by simp -dsimp only[go_sem]) (by simp -dsimp only[go_sem]) (fun a1 h3 hx3 ho => ?_) (fun a1 h3 hx3 ho => ?_)
  ·simp -dsimp only[go_sem,hr,e]
   exact ⟨hx1.trans hx3,ho⟩
  ·simp -dsimp only[go_sem,hr,e]
   exact ⟨hx1.trans hx3,ho⟩
 ·have k1:decide (d.data.toList=[114,117,108,101])=false:=dcF c1
  have e:du (emf names em) (ae names) ⟨d,t,l⟩ bs=bf (emf names em) (ae names) (decide (d.data.toList=[115,101,113])) l bs:=by unfold du;rw[if_neg c1]
  have hx1:ExtS (aR tb) h _:=hx0.toS (S:=aR tb)
  simp -dsimp only[go_sem,g0,g1,aa hP,k1]
  refine pc ht0 ht1 ht2 (l:=l) (c:=c) (d:=d) (t:=t) (pb:=h.next) ih hnk hlb hA hat hk (by simp -dsimp only[go_sem,hn]) (bG hx1 hrom) (de hx1 hb) (hB.extS hx1 ht0 ht1 ht2) (bs:=bs) (aj hx0 hown) hbl hpt hP (by simp -dsimp only[go_sem,g0]) (by simp -dsimp only[go_sem,g2]) (by simp -dsimp only[go_sem]) (by simp -dsimp only[go_sem]) (by simp -dsimp only[go_sem]) (by simp -dsimp only[go_sem]) (fun a1 h3 hx3 ho => ?_) (fun a1 h3 hx3 ho => ?_)
  ·simp -dsimp only[go_sem,hr,e]
   exact ⟨hx1.trans hx3,ho⟩
  ·simp -dsimp only[go_sem,hr,e]
   exact ⟨hx1.trans hx3,ho⟩
end
section
variable {r:Ro} {bk m eb:Nat} {G:Value} {names:List ByteArray} {em:List Bool}
structure ar where
 name:ByteArray
 body:ad
structure bd (r:Ro) (l:List ar) (Av:Option Addr) (c b o:Nat) (css:Nat->List Value):Prop where
 hc:l.length<=c
 hb:l.length<=1000
 hA:l≠[]->Av=some ⟨b,o,none⟩
 hat:∀(i:Nat) (x:ar),l[i]? = some x->fS r b (o+i*4) (.string x.name::css i)
 hk:∀(i:Nat) (x:ar),l[i]? = some x->RoPart r x.body (css i)
 hs:spotless Av=true
def nms (l:List ar):List ByteArray:=l.map (·.name)
def MapAt (h:Hp) (m:Nat) (names:List ByteArray):Prop:=m<h.next/\h.objs.get m=some (.map (dt names 0) names.length)
theorem MapAt.ext {h h1:Hp} (x:Ext h h1) (k:MapAt h m names):MapAt h1 m names:=⟨lTl k.1 x.next,by rw[x.objs m k.1];exact k.2⟩
theorem z3:bE Tryz.prog 3=some (.int .i64 0):=by kernel_rfl
theorem MapAt.hit {h:Hp} (k:MapAt h m names) {s:ByteArray} (hs:ae names s<names.length) (ok:Bool) :
  dR Tryz.prog h 77 (.map (some m)) (.string s) ok=some (if ok then .tuple #[.int .i64 (ae names s:Int),.bool true] else .int .i64 (ae names s:Int)):=by
 have hm:h.map? m=some (dt names 0,names.length):=by simp only[Hp.map?,k.2]
 have hk:cH Tryz.prog 40 9 (.string s)=true:=by simp only[cH,Tryz.underlying9]
 have hf:=eI h s names 0 0
 unfold ae at hs
 rw[if_pos hs] at hf
 simp only[dR,Tryz.underlying77,ef,hm,hk,hf,Nat.zero_add]
 rfl
theorem MapAt.miss {h:Hp} (k:MapAt h m names) {s:ByteArray} (hs:¬ae names s<names.length) (ok:Bool) :
  dR Tryz.prog h 77 (.map (some m)) (.string s) ok=some (if ok then .tuple #[.int .i64 0,.bool false] else .int .i64 0):=by
 have hm:h.map? m=some (dt names 0,names.length):=by simp only[Hp.map?,k.2]
 have hk:cH Tryz.prog 40 9 (.string s)=true:=by simp only[cH,Tryz.underlying9]
 have hf:=eI h s names 0 0
 unfold ae at hs
 rw[if_neg hs] at hf
 simp only[dR,Tryz.underlying77,ef,hm,hk,hf,z3]
theorem lj (s:ByteArray):∀(l:List ByteArray) (i:Nat),dt (l++[s]) i=dt l i++[⟨.string s,.int .i64 ((i+l.length:Nat):Int),i+l.length⟩]
 | [],i=>by simp[dt]
 | n::l,i=>by
   simp only[List.cons_append,dt,lj s l (i+1),List.length_cons]
   rw[show i+1+l.length=i+(l.length+1) by omega]
theorem MapAt.add {h:Hp} (k:MapAt h m names) {s:ByteArray} (hs:¬ae names s<names.length) :
  bF Tryz.prog h 77 (.map (some m)) (.string s) (.int .i64 (names.length:Int))=some (h.put m (.map (dt (names++[s]) 0) (names.length+1))):=by
 have hm:h.map? m=some (dt names 0,names.length):=by simp only[Hp.map?,k.2]
 have hk:cH Tryz.prog 40 9 (.string s)=true:=by simp only[cH,Tryz.underlying9]
 have hf:=eI h s names 0 0
 unfold ae at hs
 rw[if_neg hs] at hf
 simp only[bF,Tryz.underlying77,hm,hk,hf,lj,Nat.zero_add]
def fw (seen:List ByteArray):List ByteArray->Bool
 | []=>true
 | n::l => !decide (ae seen n<seen.length)&&fw (seen++[n]) l
theorem vU {l:List ar} {Av:Option Addr} {c b o:Nat} {css:Nat->List Value} (R:bd r l Av c b o css) (h:Hp) (hrom:h.rom=r) (hb:h.base<=h.next) :
  ∃v h1,Snd Tryz.prog 38 [.agg #[.slice Av l.length c]] h v h1/\Ext h h1/\(if fw [] (nms l)=true then ∃m,v=.tuple #[.map (some m),.bool true]/\h.next<=m/\MapAt h1 m (nms l) else v=.tuple #[.map none,.bool false]):=by
 refine aL wf Tryz.func38 rfl rfl (n:=32) rfl (by kernel_rfl) rfl ?_
 intro a hn hg
 have hr:Tryz.f38.results.toList=[.tmp 2,.tmp 3]:=rfl
 have g0:=hg 0
 clear hg
 simp only[gC0,gC1] at g0
 have hP:=an hb 24 [.slice Av l.length c]
 have hx0:=Ext.new h (ak.cells ⟨[.slice Av l.length c],24,0,0,false⟩)
 have hx1:=hx0.trans (Ext.new _ (.map [] 0))
 have hP1:=db hP (.map [] 0)
 simp -dsimp only[go_sem,g0,aa hP1]
 refine au (n:=32) (by kernel_rfl) (fun m' a' h'=>∃i:Nat,i<=l.length/\m'=l.length - i/\Ext h h'/\MapAt h' (h.next+1) ((nms l).take i)/\fw ((nms l).take i) ((nms l).drop i)=fw [] (nms l) /\
  a'.get 4=.map (some (h.next+1))/\a'.get 11=.slice Av l.length c/\a'.get 12=.int .i64 l.length/\a'.get 13=.int .i64 i) ?_ l.length _ _ ?_ ?_
 ·rintro m' a' h' hn' ⟨i,hi,rfl,hx,hM,hf,e4,e11,e12,e13⟩
  have hrom':h'.rom=r:=hx.rom.trans hrom
  have hb':h'.base<=h'.next:=by rw[hx.base];exact lTr hb hx.next
  by_cases hlt:i<l.length
  ·have hpi:l[i]? = some l[i]:=gEl hlt
   have hi1:decide ((i:Int)<(l.length:Int))=true:=dcT (Int.ofNat_lt.2 hlt)
   obtain ⟨Av1,c1',hcs⟩:=(R.hk i _ hpi).shape
   have hat':=R.hat i _ hpi
   rw[hcs] at hat'
   have hAv:=R.hA (aO hlt)
   subst hAv
   obtain ⟨vS,vO,vX,vB,vR⟩:=gE hb' (e:=50) (c0:=[.string ⟨#[]⟩,.string ⟨#[]⟩,.string ⟨#[]⟩,.slice none 0 0]) (c1:=[.string l[i].name,.string l[i].body.d,.string l[i].body.t,.slice Av1 l[i].body.l.length c1']) rfl rfl (by simp)
   have hM2:=hM.ext vX
   have hnl:(nms l).length=l.length:=by simp[nms]
   have hdr:(nms l).drop i=l[i].name::(nms l).drop (i+1):=by
    rw[List.drop_eq_getElem_cons (by omega)];simp[nms]
   have htk:(nms l).take (i+1)=(nms l).take i++[l[i].name]:=by
    rw[List.take_succ_eq_append_getElem (by omega)];simp[nms]
   have htl:((nms l).take i).length=i:=by simp;omega
   rw[hdr,fw] at hf
   by_cases hmem:ae ((nms l).take i) l[i].name<((nms l).take i).length
   ·simp -dsimp only[go_sem,e4,e11,e12,e13,hi1,eQ hlt,az (n:=4) hrom' hat' rfl,vS,aa vO,hM2.hit hmem,hr]
    rw[dcT hmem] at hf
    refine ⟨hx.trans vX,?_⟩
    rw[if_neg (by rw[<-hf];simp)]
    trivial
   ·have hAdd:=hM2.add hmem
    rw[htl] at hAdd
    simp -dsimp only[go_sem,e4,e11,e12,e13,hi1,eQ hlt,az (n:=4) hrom' hat' rfl,vS,aa vO,hM2.miss hmem,hr,hAdd,ah hlt (lTr R.hb (by decide))]
    rw[dcF hmem] at hf
    refine ⟨l.length - (i+1),by omega,i+1,hlt,rfl,(hx.trans vX).put (Nat.le_succ _) _,?_,?_,?_⟩
    ·rw[htk]
     refine ⟨hM2.1,?_⟩
     rw[bJ,if_pos rfl,List.length_append,htl]
     rfl
    ·rw[htk];exact hf
    ·rfl
  ·have hi0:decide ((i:Int)<(l.length:Int))=false:=dcF (by omega)
   have hil:i=l.length:=by omega
   subst hil
   have htk:(nms l).take l.length=nms l:=by rw[List.take_of_length_le];simp[nms]
   have hdr:(nms l).drop l.length=[]:=by rw[List.drop_eq_nil_of_le];simp[nms]
   rw[htk,hdr,fw] at hf
   rw[htk] at hM
   simp -dsimp only[go_sem,e4,e12,e13,hi0,hr]
   refine ⟨hx,?_⟩
   rw[if_pos hf.symm]
   exact ⟨_,rfl,Nat.le_succ _,hM⟩
 ·simp -dsimp only[go_sem,hn]
 ·refine ⟨0,lZr _,rfl,hx1,?_,rfl,?_⟩
  ·refine ⟨lSs _,?_⟩
   rw[List.take_zero]
   exact (cW _ _ _).trans (if_pos rfl)
  ·simp -dsimp only[go_sem,g0]
   exact ⟨rfl,rfl⟩
end
theorem zN (h:Hp) (x y:Operand) (a b:Bool):be Tryz.prog h .eql 4 x y (.bool a) (.bool b)=some (.bool (a==b)):=by
 simp only[be,gF,eqv,Tryz.underlying4]
def rI (v:Bool):List Bool->Nat->Int
 | [],_ => -1
 | x::l,i=>if (v==x)=true then (i:Int) else rI v l (i+1)
theorem BJ (h:Hp) (hb:h.base<=h.next) {tb:Nat} {bs:List Bool} (hown:h.own tb 4 (bs.map .bool)) (hlb:bs.length<=1000) (v0:Bool) :
  ∃v h1,Snd Tryz.prog 82 [.slice (some ⟨tb,0,none⟩) bs.length bs.length,.bool v0] h v h1/\v=.int .i64 (rI v0 bs 0)/\Ext h h1:=by
 refine aL wf Tryz.func82 rfl rfl (n:=19) rfl (by kernel_rfl) rfl ?_
 intro a hn hg
 have hr:Tryz.f82.results.toList=[.tmp 4]:=rfl
 have g0:=hg 0
 have g1:=hg 1
 clear hg
 simp only[gC0,gC1] at g0 g1
 simp -dsimp only[go_sem,g0]
 refine au (n:=19) (by kernel_rfl) (fun m' a' h'=>∃i:Nat,i<=bs.length/\m'=bs.length - i/\h'=h/\rI v0 (bs.drop i) i=rI v0 bs 0 /\
  a'.get 0=.slice (some ⟨tb,0,none⟩) bs.length bs.length/\a'.get 1=.bool v0/\a'.get 7=.int .i64 bs.length/\a'.get 8=.int .i64 i) ?_ bs.length _ _ ?_ ?_
 ·rintro m' a' h' hn' ⟨i,hi,rfl,rfl,hf,e0,e1,e7,e8⟩
  by_cases hlt:i<bs.length
  ·have hi1:decide ((i:Int)<(bs.length:Int))=true:=dcT (Int.ofNat_lt.2 hlt)
   have hget:(bs.map Value.bool)[i]? = some (.bool bs[i]):=by simp[gEl hlt]
   simp -dsimp only[go_sem,e0,e1,e7,e8,hi1,bM hlt,aa hown,hget,zN]
   rw[List.drop_eq_getElem_cons hlt,rI] at hf
   refine aT (fun hm => ?_) (fun hm => ?_)
   ·simp -dsimp only[go_sem,hr]
    rw[if_pos hm] at hf
    exact ⟨by rw[<-hf],Ext.refl _⟩
   ·simp -dsimp only[go_sem,e7,e8,ah hlt (lTr hlb (by decide))]
    rw[if_neg (by rw[hm];simp)] at hf
    exact ⟨bs.length - (i+1),by omega,i+1,hlt,rfl,hf,e0,e1,rfl⟩
  ·have hi0:decide ((i:Int)<(bs.length:Int))=false:=dcF (by omega)
   rw[List.drop_eq_nil_of_le (by omega),rI] at hf
   simp -dsimp only[go_sem,e7,e8,hi0,hr]
   exact ⟨by rw[<-hf],Ext.refl _⟩
 ·simp -dsimp only[go_sem,hn]
 ·refine ⟨0,lZr _,rfl,rfl,rfl,?_⟩
  simp -dsimp only[go_sem,g0,g1]
  rfl
theorem tp (v:Bool):∀(l:List Bool) (i:Nat),decide (0<=rI v l i)=l.any (v == ·)
 | [],i=>by simp[rI]
 | x::l,i=>by
   rw[rI,List.any_cons]
   by_cases c:(v==x)=true
   ·rw[if_pos c,c,Bool.true_or];simp
   ·rw[if_neg c,tp v l (i+1)]
    simp at c
    simp[c]
theorem uQ (h:Hp) (hb:h.base<=h.next) {tb:Nat} {bs:List Bool} (hown:h.own tb 4 (bs.map .bool)) (hlb:bs.length<=1000) (v0:Bool) :
  ∃v h1,Snd Tryz.prog 66 [.slice (some ⟨tb,0,none⟩) bs.length bs.length,.bool v0] h v h1/\v=.bool (bs.any (v0 == ·))/\Ext h h1:=by
 refine aL wf Tryz.func66 rfl rfl (n:=9) rfl (by kernel_rfl) rfl ?_
 intro a hn hg
 have hr:Tryz.f66.results.toList=[.tmp 4]:=rfl
 have g0:=hg 0
 have g1:=hg 1
 clear hg
 simp only[gC0,gC1] at g0 g1
 simp -dsimp only[go_sem,g0,g1]
 obtain ⟨_,h1,hs,rfl,hx⟩:=BJ h hb hown hlb v0
 refine ⟨_,h1,hs,?_⟩
 simp -dsimp only[go_sem,hr,tp]
 exact hx
section
variable {r:Ro} {bk m eb:Nat} {G:Value} {names:List ByteArray} {em:List Bool}
def eu (names:List ByteArray):List ad->Nat->List Bool->List Bool
 | [],_,em=>em
 | p::l,i,em=>eu names l (i+1) (if (!em.getD i false&&cD (emf names em) p)=true then em.set i true else em)
def cf (em:List Bool):Nat:=em.countP (· = false)
theorem rJ:∀{em:List Bool} {i:Nat},em[i]? = some false->cf (em.set i true)<cf em
 | x::em,0,h=>by simp at h;subst h;simp[cf]
 | x::em,i+1,h=>by
   have:=rJ (em:=em) (i:=i) (by simpa using h)
   simp only[cf,List.set_cons_succ,List.countP_cons] at this ⊢
   omega
theorem Book.set {h:Hp} (k:Book h bk m eb G names em) (i:Nat):Book (h.put eb (.cells ⟨(em.set i true).map .bool,4,0,0,false⟩)) bk m eb G names (em.set i true):=by
 have h1:bk≠eb:=by
  intro e;have:=k.own.2.2;rw[e,k.row.2.2] at this;simp at this
 have h2:m≠eb:=by
  intro e;have:=k.map.2;rw[e,k.row.2.2] at this;simp at this
 refine ⟨dV k.own h1 _,av k.row _,by simp[k.len],k.map.1,?_⟩
 rw[bJ,if_neg h2]
 exact k.map.2
theorem xx {l:List ar} {Av:Option Addr} {c b o:Nat} {css:Nat->List Value} (R:bd r l Av c b o css) (hnm:∀(i:Nat) (x:ar),l[i]? = some x->dm (nms l) x.body) {n0:Nat} (he0:n0<=eb)
  {a:Ev.A} {h:Hp} {Q:Ex->Ev.A->Hp->Prop} (hn:a.n=53) (hrom:h.rom=r) (hb:h.base<=h.next) (hB:Book h bk m eb G (nms l) em)
  (g3:a.get 3=.pointer (some ⟨bk,0,none⟩)) (g4:a.get 4=.bool false) (g24:a.get 24=.slice Av l.length c) (g25:a.get 25=.int .i64 l.length) (g26:a.get 26=.int .i64 0)
  (hq:∀a1 h1 em1 ag,a1.n=53->ExtS (aR eb) h h1->Book h1 bk m eb G (nms l) em1->eu (nms l) (l.map (·.body)) 0 em=em1->a1.get 3=.pointer (some ⟨bk,0,none⟩)->a1.get 1=a.get 1->a1.get 4=.bool ag->(if ag=true then cf em1<cf em else em1=em)->Q (.exit 2) a1 h1) :
  Th Tryz.prog (aw Tryz.f65 [1,1,1,0,1,0,0,1,0,1,1,0]) a h Q ⟨⟩ ⟨⟩:=by
 simp only[aw,nav,Tryz.f65]
 have hnl:(nms l).length=l.length:=by simp[nms]
 refine au (n:=53) (by kernel_rfl) (fun m' a' h'=>∃(i:Nat) (em':List Bool) (ag:Bool),i<=l.length/\m'=l.length - i/\ExtS (aR eb) h h'/\Book h' bk m eb G (nms l) em'/\eu (nms l) ((l.drop i).map (·.body)) i em'=eu (nms l) (l.map (·.body)) 0 em/\(if ag=true then cf em'<cf em else em'=em) /\
  a'.get 1=a.get 1/\a'.get 3=.pointer (some ⟨bk,0,none⟩)/\a'.get 4=.bool ag/\a'.get 24=.slice Av l.length c/\a'.get 25=.int .i64 l.length/\a'.get 26=.int .i64 i) ?_ l.length _ _ hn ⟨0,em,false,lZr _,rfl,(Ext.refl _).toS,hB,by rw[List.drop_zero],rfl,rfl,g3,g4,g24,g25,g26⟩
 rintro m' a' h' hn' ⟨i,em',ag,hi,rfl,hx,hB',hps,hag,e1,e3,e4,e24,e25,e26⟩
 have hrom':h'.rom=r:=bG hx hrom
 have hb':h'.base<=h'.next:=de hx hb
 by_cases hlt:i<l.length
 ·have hpi:l[i]? = some l[i]:=gEl hlt
  have hi1:decide ((i:Int)<(l.length:Int))=true:=dcT (Int.ofNat_lt.2 hlt)
  obtain ⟨Av1,c1',hcs⟩:=(R.hk i _ hpi).shape
  have hat':=R.hat i _ hpi
  have hkid:=R.hk i _ hpi
  rw[hcs] at hat' hkid
  have hAv:=R.hA (aO hlt)
  subst hAv
  obtain ⟨vS,vO,vX,vB,vR⟩:=gE hb' (e:=50) (c0:=[.string ⟨#[]⟩,.string ⟨#[]⟩,.string ⟨#[]⟩,.slice none 0 0]) (c1:=[.string l[i].name,.string l[i].body.d,.string l[i].body.t,.slice Av1 l[i].body.l.length c1']) rfl rfl (by simp)
  have hB2:=hB'.ext vX
  have hil:i<em'.length:=by rw[hB'.len,hnl];exact hlt
  have hin:i<(nms l).length:=by rw[hnl];exact hlt
  have hdr:(l.drop i).map (·.body)=l[i].body::(l.drop (i+1)).map (·.body):=by
   rw[List.drop_eq_getElem_cons hlt,List.map_cons]
  rw[hdr,eu] at hps
  have hget:em'.getD i false=em'[i]:=by simp[List.getD,gEl hil]
  have hmi:(em'.map Value.bool)[i]? = some (.bool em'[i]):=by simp[gEl hil]
  rw[hget] at hps
  have hx2:ExtS (aR eb) h _:=hx.trans vX.toS
  cases hei:em'[i] with
  | true =>
    rw[hei] at hmi hps
    simp -dsimp only[go_sem,e3,e24,e25,e26,hi1,eQ hlt,az (n:=4) hrom' hat' rfl,vS,aa hB2.own,aa hB2.row,bM hin,hmi,ah hlt (lTr R.hb (by decide))]
    rw[if_neg (by simp)] at hps
    exact ⟨l.length - (i+1),by omega,i+1,em',ag,hlt,rfl,hx2,hB2,hps,hag,e1,e4,rfl⟩
  | false =>
    rw[hei] at hmi hps
    simp -dsimp only[go_sem,e3,e24,e25,e26,hi1,eQ hlt,az (n:=4) hrom' hat' rfl,vS,aa hB2.own,aa hB2.row,bM hin,hmi,af vO]
    obtain ⟨_,h4,hs4,rfl,hx4⟩:=zL _ l[i].body (lSs _) _ _ (bG hx2 hrom) (de hx2 hb) hB2 hkid (hnm i _ hpi)
    refine ⟨_,h4,hs4,?_⟩
    have hB4:=hB2.ext hx4
    have hx5:ExtS (aR eb) h h4:=hx2.trans hx4.toS
    simp -dsimp only[go_sem]
    refine aT (fun hm => ?_) (fun hm => ?_)
    ·have hsto:=aE hB4.row (o:=i) (vs:=[.bool true]) rfl (dP hil) (by simp)
     simp -dsimp only[go_sem,e3,e24,e25,e26,aa hB4.own,bM hin,hsto,ah hlt (lTr R.hb (by decide))]
     rw[hm] at hps
     rw[if_pos (by simp)] at hps
     refine ⟨l.length - (i+1),by omega,i+1,_,true,hlt,rfl,hx5.put (.inr rfl) _,hB4.set i,hps,?_,e1,rfl,rfl⟩
     rw[if_pos rfl]
     have h1:cf (em'.set i true)<cf em':=rJ (by rw[gEl hil,hei])
     cases ag with
     | true=>exact Nat.lt_trans h1 hag
     | false=>simp at hag;rw[hag] at h1;rw[hag];exact h1
    ·simp -dsimp only[go_sem,e3,e24,e25,e26,ah hlt (lTr R.hb (by decide))]
     rw[hm] at hps
     rw[if_neg (by simp)] at hps
     exact ⟨l.length - (i+1),by omega,i+1,em',ag,hlt,rfl,hx5,hB4,hps,hag,e1,e4,rfl⟩
 ·have hi0:decide ((i:Int)<(l.length:Int))=false:=dcF (by omega)
  simp -dsimp only[go_sem,e25,e26,hi0]
  refine hq _ _ em' ag ?_ hx hB' ?_ ?_ ?_ ?_ hag
  ·simp -dsimp only[go_sem,hn']
  ·rw[<-hps,List.drop_eq_nil_of_le (by omega)];rfl
  ·simp -dsimp only[go_sem,e3]
  ·simp -dsimp only[go_sem,e1]
  ·simp -dsimp only[go_sem,e4]
def ll {α:Type} (f:α->α):Nat->α->α
 | 0,x=>x
 | n+1,x=>f (ll f n x)
def Found (l:List ar) (em:List Bool):Prop:=(∃k,em=ll (eu (nms l) (l.map (·.body)) 0) k (List.replicate l.length false))/\eu (nms l) (l.map (·.body)) 0 em=em
theorem cl:∀n:Nat,aC [.bool false] n=(List.replicate n false).map Value.bool
 | 0=>rfl
 | n+1=>by simp only[aC,cl n,List.replicate_succ,List.map_cons,List.cons_append,List.nil_append]
theorem Db {l:List ar} {Av:Option Addr} {c b o:Nat} {css:Nat->List Value} (R:bd r l Av c b o css) (hfr:fw [] (nms l)=true) (hnm:∀(i:Nat) (x:ar),l[i]? = some x->dm (nms l) x.body) (h:Hp) (hrom:h.rom=r) (hb:h.base<=h.next) :
  ∃v h1,Snd Tryz.prog 65 [.agg #[.slice Av l.length c]] h v h1/\Ext h h1/\∃bk m eb em,v=.pointer (some ⟨bk,0,none⟩)/\h.next<=bk/\h.next<=m/\h.next<=eb/\Book h1 bk m eb (.slice Av l.length c) (nms l) em/\Found l em:=by
 refine aL wf Tryz.func65 rfl rfl (n:=53) rfl (by kernel_rfl) rfl ?_
 intro a hn hg
 have hr:Tryz.f65.results.toList=[.tmp 2]:=rfl
 have g0:=hg 0
 clear hg
 simp only[gC0,gC1] at g0
 have hP:=an hb 24 [.slice Av l.length c]
 have hx0:=Ext.new h (ak.cells ⟨[.slice Av l.length c],24,0,0,false⟩)
 simp -dsimp only[go_sem,g0]
 refine aD (n:=53) [[],[],[1],[1,2],[1,2,3],[0,1,2,3,4],[0,1,2,3,4,5],[0,1,2,3,4,5,6]] (by simp -dsimp only[go_sem,hn]) (by kernel_rfl) ?_
 have hb1:=Nat.le_succ_of_le (m:=h.next) hb
 have hE:=an (h:=h.newH (ak.cells ⟨[.slice Av l.length c],24,0,0,false⟩)) hb1 4 (aC [.bool false] l.length)
 have hP1:=db hP (ak.cells { c:=aC [.bool false] l.length,e:=4,fam:=0,base:=0,grown:=false })
 have hb2:=Nat.le_succ_of_le hb1
 have hx1:=hx0.trans (Ext.new _ (ak.cells { c:=aC [.bool false] l.length,e:=4,fam:=0,base:=0,grown:=false }))
 have hK:=an (h:=(h.newH (ak.cells ⟨[.slice Av l.length c],24,0,0,false⟩)).newH (ak.cells { c:=aC [.bool false] l.length,e:=4,fam:=0,base:=0,grown:=false })) hb2 79 [.slice Av l.length c,.map none,.slice (some ⟨h.next+1,0,none⟩) l.length l.length]
 have hE2:=db hE (ak.cells ⟨[.slice Av l.length c,.map none,.slice (some ⟨h.next+1,0,none⟩) l.length l.length],79,0,0,false⟩)
 have hP2:=db hP1 (ak.cells ⟨[.slice Av l.length c,.map none,.slice (some ⟨h.next+1,0,none⟩) l.length l.length],79,0,0,false⟩)
 have hx2:=hx1.trans (Ext.new _ (ak.cells ⟨[.slice Av l.length c,.map none,.slice (some ⟨h.next+1,0,none⟩) l.length l.length],79,0,0,false⟩))
 have hb3:=Nat.le_succ_of_le hb2
 simp -dsimp only[go_sem,bu,ab R.hs,af hP,aa hP,af hP1,aa hP1,jS l.length l.length (lRf _) R.hb,af hP2]
 simp only[bu] at hE2 hK hx2 hb3 hP2
 generalize ((h.newH (ak.cells ⟨[.slice Av l.length c],24,0,0,false⟩)).newH (ak.cells { c:=aC [.bool false] l.length,e:=4,fam:=0,base:=0,grown:=false })).newH (ak.cells ⟨[.slice Av l.length c,.map none,.slice (some ⟨h.next+1,0,none⟩) l.length l.length],79,0,0,false⟩)=h2 at hE2 hK hx2 hb3 hP2 ⊢
 obtain ⟨_,h3,hs3,hx3,hv3⟩:=vU R h2 (hx2.rom.trans hrom) (by rw[hx2.base];exact lTr hb hx2.next)
 rw[if_pos hfr] at hv3
 obtain ⟨m,rfl,hm1,hM⟩:=hv3
 refine ⟨_,h3,hs3,?_⟩
 have hE3:=aj hx3 hE2
 have hK3:=aj hx3 hK
 have hP3:=aj hx3 hP2
 have hsto:=aE hK3 (o:=1) (vs:=[.map (some m)]) (c1:=[.slice Av l.length c,.map (some m),.slice (some ⟨h.next+1,0,none⟩) l.length l.length]) rfl rfl (by simp)
 simp -dsimp only[go_sem,hsto]
 have hnl:(nms l).length=l.length:=by simp[nms]
 have hbk:h.next+1+1≠h.next+1:=by omega
 have hE4:=dV hE3 hbk.symm (.cells ⟨[.slice Av l.length c,.map (some m),.slice (some ⟨h.next+1,0,none⟩) l.length l.length],79,0,0,false⟩)
 have hK4:=av hK3 [.slice Av l.length c,.map (some m),.slice (some ⟨h.next+1,0,none⟩) l.length l.length]
 have hP4:=dV hP3 (d:=h.next+1+1) (by omega) (.cells ⟨[.slice Av l.length c,.map (some m),.slice (some ⟨h.next+1,0,none⟩) l.length l.length],79,0,0,false⟩)
 have hx4:=(hx2.trans hx3).put (b:=h.next+1+1) (by omega) (.cells ⟨[.slice Av l.length c,.map (some m),.slice (some ⟨h.next+1,0,none⟩) l.length l.length],79,0,0,false⟩)
 have hmk:m≠h.next+1+1:=by have:=hK.2.1;omega
 have hB:Book (h3.put (h.next+1+1) (.cells ⟨[.slice Av l.length c,.map (some m),.slice (some ⟨h.next+1,0,none⟩) l.length l.length],79,0,0,false⟩)) (h.next+1+1) m (h.next+1) (.slice Av l.length c) (nms l) (List.replicate l.length false):=by
  refine ⟨by rw[hnl];exact hK4,by rw[<-cl];exact hE4,by simp[hnl],hM.1,?_⟩
  rw[bJ,if_neg hmk]
  exact hM.2
 generalize h3.put (h.next+1+1) (.cells ⟨[.slice Av l.length c,.map (some m),.slice (some ⟨h.next+1,0,none⟩) l.length l.length],79,0,0,false⟩)=h4 at hP4 hx4 hB ⊢
 refine au (n:=53) (by kernel_rfl) (fun m' a' h'=>∃(em:List Bool) (ag:Bool),m'=2*cf em+(if ag=true then 1 else 0)/\(∃k,em=ll (eu (nms l) (l.map (·.body)) 0) k (List.replicate l.length false))/\(ag=false->eu (nms l) (l.map (·.body)) 0 em=em)/\Ext h h'/\Book h' (h.next+1+1) m (h.next+1) (.slice Av l.length c) (nms l) em/\h'.own h.next 24 [.slice Av l.length c] /\
  a'.get 1=.pointer (some ⟨h.next,0,none⟩)/\a'.get 3=.pointer (some ⟨h.next+1+1,0,none⟩)/\a'.get 4=.bool ag) ?_ (2*cf (List.replicate l.length false)+1) _ _ (by simp -dsimp only[go_sem,hn]) ⟨_,true,rfl,⟨0,rfl⟩,fun e=>(by cases e),hx4,hB,hP4,by simp -dsimp only[go_sem],by simp -dsimp only[go_sem],by simp -dsimp only[go_sem]⟩
 rintro m' a' h' hn' ⟨em,ag,rfl,⟨k,hk⟩,hfix,hx,hB',hP',e1,e3,e4⟩
 have hrom':h'.rom=r:=hx.rom.trans hrom
 have hb':h'.base<=h'.next:=by rw[hx.base];exact lTr hb hx.next
 cases ag with
 | false =>
   simp -dsimp only[go_sem,e3,e4,hr]
   exact ⟨hx,h.next+1+1,m,h.next+1,em,rfl,by omega,by have:=hx2.next;omega,by omega,hB',⟨k,hk⟩,hfix rfl⟩
 | true =>
   simp -dsimp only[go_sem,e1,e3,e4,aa hP']
   refine xx R hnm (n0:=h.next) (em:=em) (eb:=h.next+1) (m:=m) (bk:=h.next+1+1) (c:=c) (by omega) (by simp -dsimp only[go_sem,hn']) hrom' hb' hB' (by simp -dsimp only[go_sem,e3]) (by simp -dsimp only[go_sem]) (by simp -dsimp only[go_sem]) (by simp -dsimp only[go_sem]) (by simp -dsimp only[go_sem]) (fun a1 h1 em1 ag hn1 hx1 hB1 hp f3 f1 f4 hag => ?_)
   simp -dsimp only[go_sem,e1] at f1
   have hxx:Ext h h1:=(hx.toS.trans hx1).ext (fun b hb hs=>by
    have:b=h.next+1:=hs
    omega)
   simp -dsimp only[go_sem]
   refine ⟨2*cf em1+(if ag=true then 1 else 0),?_,em1,ag,rfl,⟨k+1,by rw[ll,<-hk];exact hp.symm⟩,?_,hxx,hB1,aJ hx1 hP' (by show h.next≠h.next+1;omega),f1,f3,f4⟩
   ·cases ag with
    | true=>simp at hag ⊢;omega
    | false=>simp at hag ⊢;rw[hag];omega
   ·intro e
    subst e
    simp at hag
    rw[hag] at hp ⊢
    exact hp
end
section
variable {r:Ro} {bk m eb:Nat} {G:Value} {names:List ByteArray} {em:List Bool}
def bN (M:List (List Bool)) (i j:Nat):Bool:=(M.getD i []).getD j false
def lW (M:List (List Bool)) (i j:Nat) (v:Bool):List (List Bool):=M.set i ((M.getD i []).set j v)
def bw (k i j:Nat) (M:List (List Bool)):List (List Bool):=lW M i j (bN M i j||(bN M i k&&bN M k j))
def bK {α:Type} (f:Nat->α->α):Nat->α->α
 | 0,x=>x
 | n+1,x=>f n (bK f n x)
structure Mat (h:Hp) (n0 tb n:Nat) (bs:List Nat) (M:List (List Bool)):Prop where
 row:h.own tb 58 (bs.map fun b=>.slice (some ⟨b,0,none⟩) n n)
 lb:bs.length=n
 lM:M.length=n
 rows:∀(i b:Nat) (L:List Bool),bs[i]? = some b->M[i]? = some L->h.own b 4 (L.map .bool)/\L.length=n
 dis:∀i j b:Nat,bs[i]? = some b->bs[j]? = some b->i=j
 lo:n0<=tb/\∀i b:Nat,bs[i]? = some b->n0<=b
variable {h:Hp} {n0 tb n:Nat} {bs:List Nat} {M:List (List Bool)}
theorem Mat.at (k:Mat h n0 tb n bs M) {i:Nat} (hi:i<n):∃b L,bs[i]? = some b/\M[i]? = some L/\h.own b 4 (L.map .bool)/\L.length=n/\h.load ⟨tb,i,none⟩=some (.slice (some ⟨b,0,none⟩) n n)/\∀j,j<n->h.load ⟨b,j,none⟩=some (.bool (bN M i j)):=by
 have hib:i<bs.length:=by rw[k.lb];exact hi
 have hiM:i<M.length:=by rw[k.lM];exact hi
 have h1:bs[i]? = some bs[i]:=gEl hib
 have h2:M[i]? = some M[i]:=gEl hiM
 obtain ⟨q1,q2⟩:=k.rows i _ _ h1 h2
 refine ⟨_,_,h1,h2,q1,q2,?_,?_⟩
 ·rw[aa k.row,List.getElem?_map,h1];rfl
 ·intro j hj
  rw[aa q1,List.getElem?_map,gEl (by rw[q2];exact hj)]
  simp only[bN,List.getD,h2,Option.getD_some,Option.map_some]
  rw[gEl (by rw[q2];exact hj)]
  rfl
theorem pd {bs:List Bool} {k:Nat} (v:Bool) (hk:k<bs.length):bC (bs.map Value.bool) k [.bool v]=some ((bs.set k v).map .bool):=by
 induction bs generalizing k with
 | nil=>exact absurd hk (lNz _)
 | cons x bs ih =>
   cases k with
   | zero=>cases bs<;>rfl
   | succ k=>simp only[List.map_cons,bC,ih (Nat.lt_of_succ_lt_succ hk),List.set_cons_succ]
theorem Mat.put (k:Mat h n0 tb n bs M) {i j b:Nat} {L:List Bool} (h1:bs[i]? = some b) (h2:M[i]? = some L) (hj:j<n) (v:Bool) :
  h.stores ⟨b,j,none⟩ [.bool v]=some (h.put b (.cells ⟨(L.set j v).map .bool,4,0,0,false⟩))/\Mat (h.put b (.cells ⟨(L.set j v).map .bool,4,0,0,false⟩)) n0 tb n bs (lW M i j v):=by
 obtain ⟨q1,q2⟩:=k.rows i _ _ h1 h2
 have ht:tb≠b:=by
  intro e;have:=k.row.2.2;rw[e,q1.2.2] at this;simp at this
 have hi:i<M.length:=by
  rcases Nat.lt_or_ge i M.length with h|h
  ·exact h
  ·rw[List.getElem?_eq_none h] at h2;cases h2
 have hg:M.getD i []=L:=by simp[List.getD,h2]
 refine ⟨aE q1 rfl (pd v (by rw[q2];exact hj)) (by simp),dV k.row ht _,k.lb,by simp[lW,k.lM],?_,k.dis,k.lo⟩
 intro i' b' L' hb' hL'
 simp only[lW,hg,List.getElem?_set] at hL'
 by_cases e:i=i'
 ·subst e
  rw[h1] at hb'
  injection hb' with hb'
  subst hb'
  rw[if_pos rfl,if_pos hi] at hL'
  injection hL' with hL'
  subst hL'
  exact ⟨av q1 _,by simp[q2]⟩
 ·rw[if_neg e] at hL'
  obtain ⟨p1,p2⟩:=k.rows i' _ _ hb' hL'
  refine ⟨dV p1 ?_ _,p2⟩
  intro e2
  subst e2
  exact e (k.dis _ _ _ h1 hb')
theorem Mat.ext {h1:Hp} (x:Ext h h1) (k:Mat h n0 tb n bs M):Mat h1 n0 tb n bs M:=⟨aj x k.row,k.lb,k.lM,fun i b L h1 h2=>⟨aj x (k.rows i b L h1 h2).1,(k.rows i b L h1 h2).2⟩,k.dis,k.lo⟩
theorem DR {k i:Nat} (hk:k<n) (hi:i<n) (hn1:n<=1000) {hA:Hp} (hAn:hA.next=n0) {a:Ev.A} {Q:Ex->Ev.A->Hp->Prop} (hn:a.n=123) (hX:Ext hA h) (hM:Mat h n0 tb n bs M) {x0 x46 x47 x50 x51:Value}
  (g0:a.get 0=x0) (g3:a.get 3=.int .i64 n) (g4:a.get 4=.slice (some ⟨tb,0,none⟩) n n) (g7:a.get 7=.int .i64 k) (g8:a.get 8=.int .i64 i) (g46:a.get 46=x46) (g47:a.get 47=x47) (g50:a.get 50=x50) (g51:a.get 51=x51) (g54:a.get 54=.int .i64 n) (g55:a.get 55=.int .i64 0)
  (hq:∀a1 h1,a1.n=123->Ext hA h1->Mat h1 n0 tb n bs (bK (bw k i) n M)->a1.get 0=x0->a1.get 3=.int .i64 n->a1.get 4=.slice (some ⟨tb,0,none⟩) n n->a1.get 7=.int .i64 k->a1.get 46=x46->a1.get 47=x47->a1.get 50=x50->a1.get 51=x51->Q (.exit 6) a1 h1) :
  Th Tryz.prog (aw Tryz.f67 [1,1,1,1,0,1,0,0,1,1,0,0,1,1,0,0,1,1,0,0,1,1,0]) a h Q ⟨⟩ ⟨⟩:=by
 simp only[aw,nav,Tryz.f67]
 refine au (n:=123) (by kernel_rfl) (fun m' a' h'=>∃j:Nat,j<=n/\m'=n - j/\Ext hA h'/\Mat h' n0 tb n bs (bK (bw k i) j M) /\
  a'.get 0=x0/\a'.get 3=.int .i64 n/\a'.get 4=.slice (some ⟨tb,0,none⟩) n n/\a'.get 7=.int .i64 k/\a'.get 8=.int .i64 i/\a'.get 46=x46/\a'.get 47=x47/\a'.get 50=x50/\a'.get 51=x51/\a'.get 54=.int .i64 n/\a'.get 55=.int .i64 j) ?_ n _ _ hn ⟨0,lZr _,rfl,hX,hM,g0,g3,g4,g7,g8,g46,g47,g50,g51,g54,g55⟩
 rintro m' a' h' hn' ⟨j,hj,rfl,hx,hM',e0,e3,e4,e7,e8,e46,e47,e50,e51,e54,e55⟩
 by_cases hlt:j<n
 ·have hi1:decide ((j:Int)<(n:Int))=true:=dcT (Int.ofNat_lt.2 hlt)
  obtain ⟨bi,Li,q1,q2,q3,q4,q5,q6⟩:=hM'.at hi
  obtain ⟨bk',Lk,p1,p2,p3,p4,p5,p6⟩:=hM'.at hk
  have q6j:=q6 j hlt
  have q6k:=q6 k hk
  have p6j:=p6 j hlt
  obtain ⟨s1,s2⟩:=hM'.put q1 q2 hlt (bN (bK (bw k i) j M) i j||(bN (bK (bw k i) j M) i k&&bN (bK (bw k i) j M) k j))
  have hx2:=hx.put (b:=bi) (by rw[hAn];exact hM'.lo.2 _ _ q1) (.cells ⟨(Li.set j (bN (bK (bw k i) j M) i j||(bN (bK (bw k i) j M) i k&&bN (bK (bw k i) j M) k j))).map .bool,4,0,0,false⟩)
  simp -dsimp only[go_sem,e54,e55,hi1]
  refine qV (n:=123) (by simp -dsimp only[go_sem,hn']) (by kernel_rfl) ?_
  have fin:Mat (h'.put bi (.cells ⟨(Li.set j (bN (bK (bw k i) j M) i j||(bN (bK (bw k i) j M) i k&&bN (bK (bw k i) j M) k j))).map .bool,4,0,0,false⟩)) n0 tb n bs (bK (bw k i) (j+1) M):=s2
  cases hij:bN (bK (bw k i) j M) i j with
  | true =>
    rw[hij] at s1 fin q6j hx2
    rw[Bool.true_or] at s1 fin hx2
    simp -dsimp only[go_sem,ai,e0,e3,e4,e7,e8,eU hi,eU hk,bM hlt,bM hk,q5,q6j,q6k,p5,p6j,s1,e54,e55,ah hlt (lTr hn1 (by decide))]
    exact ⟨n - (j+1),by omega,j+1,hlt,rfl,hx2,fin,e46,e47,e50,e51,rfl⟩
  | false =>
    rw[hij] at s1 fin q6j hx2
    rw[Bool.false_or] at s1 fin hx2
    cases hik:bN (bK (bw k i) j M) i k with
    | true =>
      rw[hik] at s1 fin q6k hx2
      rw[Bool.true_and] at s1 fin hx2
      simp -dsimp only[go_sem,ai,e0,e3,e4,e7,e8,eU hi,eU hk,bM hlt,bM hk,q5,q6j,q6k,p5,p6j,s1,e54,e55,ah hlt (lTr hn1 (by decide))]
      exact ⟨n - (j+1),by omega,j+1,hlt,rfl,hx2,fin,e46,e47,e50,e51,rfl⟩
    | false =>
      rw[hik] at s1 fin q6k hx2
      rw[Bool.false_and] at s1 fin hx2
      simp -dsimp only[go_sem,ai,e0,e3,e4,e7,e8,eU hi,eU hk,bM hlt,bM hk,q5,q6j,q6k,p5,p6j,s1,e54,e55,ah hlt (lTr hn1 (by decide))]
      exact ⟨n - (j+1),by omega,j+1,hlt,rfl,hx2,fin,e46,e47,e50,e51,rfl⟩
 ·have hi0:decide ((j:Int)<(n:Int))=false:=dcF (by omega)
  have hjn:j=n:=by omega
  subst hjn
  simp -dsimp only[go_sem,e54,e55,hi0]
  exact hq _ _ (by simp -dsimp only[go_sem,hn']) hx hM' (by simp -dsimp only[go_sem,e0]) (by simp -dsimp only[go_sem,e3]) (by simp -dsimp only[go_sem,e4]) (by simp -dsimp only[go_sem,e7]) (by simp -dsimp only[go_sem,e46]) (by simp -dsimp only[go_sem,e47]) (by simp -dsimp only[go_sem,e50]) (by simp -dsimp only[go_sem,e51])
end
section
variable {h:Hp} {n0 tb n:Nat} {bs:List Nat} {M:List (List Bool)}
theorem DS {k:Nat} (hk:k<n) (hn1:n<=1000) {hA:Hp} (hAn:hA.next=n0) {a:Ev.A} {Q:Ex->Ev.A->Hp->Prop} (hn:a.n=123) (hX:Ext hA h) (hM:Mat h n0 tb n bs M) {x0 x46 x47:Value}
  (g0:a.get 0=x0) (g3:a.get 3=.int .i64 n) (g4:a.get 4=.slice (some ⟨tb,0,none⟩) n n) (g7:a.get 7=.int .i64 k) (g46:a.get 46=x46) (g47:a.get 47=x47) (g50:a.get 50=.int .i64 n) (g51:a.get 51=.int .i64 0)
  (hq:∀a1 h1,a1.n=123->Ext hA h1->Mat h1 n0 tb n bs (bK (fun i=>bK (bw k i) n) n M)->a1.get 0=x0->a1.get 3=.int .i64 n->a1.get 4=.slice (some ⟨tb,0,none⟩) n n->a1.get 46=x46->a1.get 47=x47->Q (.exit 4) a1 h1) :
  Th Tryz.prog (aw Tryz.f67 [1,1,1,1,0,1,0,0,1,1,0,0,1,1,0]) a h Q ⟨⟩ ⟨⟩:=by
 simp only[aw,nav,Tryz.f67]
 refine au (n:=123) (by kernel_rfl) (fun m' a' h'=>∃j:Nat,j<=n/\m'=n - j/\Ext hA h'/\Mat h' n0 tb n bs (bK (fun i=>bK (bw k i) n) j M) /\
  a'.get 0=x0/\a'.get 3=.int .i64 n/\a'.get 4=.slice (some ⟨tb,0,none⟩) n n/\a'.get 7=.int .i64 k/\a'.get 46=x46/\a'.get 47=x47/\a'.get 50=.int .i64 n/\a'.get 51=.int .i64 j) ?_ n _ _ hn ⟨0,lZr _,rfl,hX,hM,g0,g3,g4,g7,g46,g47,g50,g51⟩
 rintro m' a' h' hn' ⟨j,hj,rfl,hx,hM',e0,e3,e4,e7,e46,e47,e50,e51⟩
 by_cases hlt:j<n
 ·have hi1:decide ((j:Int)<(n:Int))=true:=dcT (Int.ofNat_lt.2 hlt)
  simp -dsimp only[go_sem,e0,e3,e4,e7,e50,e51,hi1]
  refine DR (x0:=x0) (x46:=x46) (x47:=x47) (x50:=.int .i64 n) (x51:=.int .i64 j) hk hlt hn1 hAn (by simp -dsimp only[go_sem,hn']) hx hM' (by simp -dsimp only[go_sem,e0]) (by simp -dsimp only[go_sem,e3]) (by simp -dsimp only[go_sem,e4]) (by simp -dsimp only[go_sem,e7]) (by simp -dsimp only[go_sem]) (by simp -dsimp only[go_sem,e46]) (by simp -dsimp only[go_sem,e47]) (by simp -dsimp only[go_sem,e50]) (by simp -dsimp only[go_sem,e51]) (by simp -dsimp only[go_sem]) (by simp -dsimp only[go_sem]) (fun a1 h1 hn1' hx1 hM1 f0 f3 f4 f7 f46 f47 f50 f51 => ?_)
  simp -dsimp only[go_sem,f50,f51,ah hlt (lTr hn1 (by decide))]
  exact ⟨n - (j+1),by omega,j+1,hlt,rfl,hx1,hM1,f0,f3,f4,f7,f46,f47,rfl⟩
 ·have hi0:decide ((j:Int)<(n:Int))=false:=dcF (by omega)
  have hjn:j=n:=by omega
  subst hjn
  simp -dsimp only[go_sem,e50,e51,hi0]
  exact hq _ _ (by simp -dsimp only[go_sem,hn']) hx hM' (by simp -dsimp only[go_sem,e0]) (by simp -dsimp only[go_sem,e3]) (by simp -dsimp only[go_sem,e4]) (by simp -dsimp only[go_sem,e46]) (by simp -dsimp only[go_sem,e47])
def pe (n:Nat) (M:List (List Bool)):List (List Bool):=bK (fun k=>bK (fun i=>bK (bw k i) n) n) n M
theorem DU (hn1:n<=1000) {hA:Hp} (hAn:hA.next=n0) {a:Ev.A} {Q:Ex->Ev.A->Hp->Prop} (hn:a.n=123) (hX:Ext hA h) (hM:Mat h n0 tb n bs M) {x0:Value}
  (g0:a.get 0=x0) (g3:a.get 3=.int .i64 n) (g4:a.get 4=.slice (some ⟨tb,0,none⟩) n n) (g46:a.get 46=.int .i64 n) (g47:a.get 47=.int .i64 0)
  (hq:∀a1 h1,a1.n=123->Ext hA h1->Mat h1 n0 tb n bs (pe n M)->a1.get 0=x0->a1.get 3=.int .i64 n->a1.get 4=.slice (some ⟨tb,0,none⟩) n n->Q (.exit 2) a1 h1) :
  Th Tryz.prog (aw Tryz.f67 [1,1,1,1,0,1,0]) a h Q ⟨⟩ ⟨⟩:=by
 simp only[aw,nav,Tryz.f67]
 refine au (n:=123) (by kernel_rfl) (fun m' a' h'=>∃j:Nat,j<=n/\m'=n - j/\Ext hA h'/\Mat h' n0 tb n bs (bK (fun k=>bK (fun i=>bK (bw k i) n) n) j M) /\
  a'.get 0=x0/\a'.get 3=.int .i64 n/\a'.get 4=.slice (some ⟨tb,0,none⟩) n n/\a'.get 46=.int .i64 n/\a'.get 47=.int .i64 j) ?_ n _ _ hn ⟨0,lZr _,rfl,hX,hM,g0,g3,g4,g46,g47⟩
 rintro m' a' h' hn' ⟨j,hj,rfl,hx,hM',e0,e3,e4,e46,e47⟩
 by_cases hlt:j<n
 ·have hi1:decide ((j:Int)<(n:Int))=true:=dcT (Int.ofNat_lt.2 hlt)
  simp -dsimp only[go_sem,e0,e3,e4,e46,e47,hi1]
  refine DS (x0:=x0) (x46:=.int .i64 n) (x47:=.int .i64 j) hlt hn1 hAn (by simp -dsimp only[go_sem,hn']) hx hM' (by simp -dsimp only[go_sem,e0]) (by simp -dsimp only[go_sem,e3]) (by simp -dsimp only[go_sem,e4]) (by simp -dsimp only[go_sem]) (by simp -dsimp only[go_sem,e46]) (by simp -dsimp only[go_sem,e47]) (by simp -dsimp only[go_sem]) (by simp -dsimp only[go_sem]) (fun a1 h1 hn1' hx1 hM1 f0 f3 f4 f46 f47 => ?_)
  simp -dsimp only[go_sem,f46,f47,ah hlt (lTr hn1 (by decide))]
  exact ⟨n - (j+1),by omega,j+1,hlt,rfl,hx1,hM1,f0,f3,f4,rfl⟩
 ·have hi0:decide ((j:Int)<(n:Int))=false:=dcF (by omega)
  have hjn:j=n:=by omega
  subst hjn
  simp -dsimp only[go_sem,e46,e47,hi0]
  exact hq _ _ (by simp -dsimp only[go_sem,hn']) hx hM' (by simp -dsimp only[go_sem,e0]) (by simp -dsimp only[go_sem,e3]) (by simp -dsimp only[go_sem,e4])
end
section
variable {r:Ro} {bk m eb:Nat} {G:Value} {em:List Bool} {h:Hp} {n0 tb n:Nat} {bs:List Nat} {M:List (List Bool)}
structure MatP (h:Hp) (n0 tb n i:Nat) (bs:List Nat) (M:List (List Bool)):Prop where
 row:h.own tb 58 ((bs.map fun b=>.slice (some ⟨b,0,none⟩) n n)++List.replicate (n - i) (.slice none 0 0))
 lb:bs.length=i
 lM:M.length=i
 rows:∀(j b:Nat) (L:List Bool),bs[j]? = some b->M[j]? = some L->h.own b 4 (L.map .bool)/\L.length=n
 dis:∀i j b:Nat,bs[i]? = some b->bs[j]? = some b->i=j
 lo:n0<=tb/\∀i b:Nat,bs[i]? = some b->n0<=b
theorem MatP.full (k:MatP h n0 tb n n bs M):Mat h n0 tb n bs M:=⟨by simpa using k.row,k.lb,k.lM,k.rows,k.dis,k.lo⟩
theorem MatP.ext {h1:Hp} {i:Nat} (x:Ext h h1) (k:MatP h n0 tb n i bs M):MatP h1 n0 tb n i bs M:=⟨aj x k.row,k.lb,k.lM,fun i b L h1 h2=>⟨aj x (k.rows i b L h1 h2).1,(k.rows i b L h1 h2).2⟩,k.dis,k.lo⟩
theorem xy {X Y:List Value} {y v:Value}:bC (X++y::Y) X.length [v]=some (X++v::Y):=by
 induction X with
 | nil=>cases Y<;>rfl
 | cons x X ih=>simp only[List.cons_append,List.length_cons,bC,ih]
theorem MatP.more {i:Nat} (k:MatP h n0 tb n i bs M) (hi:i<n) {b:Nat} (hb:∀j:Nat,bs[j]? ≠ some b) (hlo:n0<=b) {L:List Bool} (hL:L.length=n) (ho:h.own b 4 (L.map .bool)) :
  ∃cs,h.stores ⟨tb,i,none⟩ [.slice (some ⟨b,0,none⟩) n n]=some (h.put tb (.cells ⟨cs,58,0,0,false⟩))/\MatP (h.put tb (.cells ⟨cs,58,0,0,false⟩)) n0 tb n (i+1) (bs++[b]) (M++[L]):=by
 have hr:List.replicate (n - i) (Value.slice none 0 0)=.slice none 0 0::List.replicate (n - (i+1)) (.slice none 0 0):=by
  rw[show n - i=(n - (i+1))+1 by omega,List.replicate_succ]
 have hrow:=k.row
 rw[hr] at hrow
 have hlen:(bs.map fun b=>Value.slice (some ⟨b,0,none⟩) n n).length=i:=by simp[k.lb]
 have hs:=xy (X:=bs.map fun b=>Value.slice (some ⟨b,0,none⟩) n n) (Y:=List.replicate (n - (i+1)) (.slice none 0 0)) (y:=.slice none 0 0) (v:=.slice (some ⟨b,0,none⟩) n n)
 rw[hlen] at hs
 have hbt:∀{b':Nat} {c:List Value},h.own b' 4 c->b'≠tb:=by
  intro b' c ho' e
  have:=ho'.2.2
  rw[e,hrow.2.2] at this
  simp at this
 refine ⟨_,aE hrow rfl hs (by simp),?_,by simp[k.lb],by simp[k.lM],?_,?_,k.lo.1,?_⟩
 ·have:=av hrow ((bs.map fun b=>Value.slice (some ⟨b,0,none⟩) n n)++.slice (some ⟨b,0,none⟩) n n::List.replicate (n - (i+1)) (.slice none 0 0))
  simpa using this
 ·intro j b' L' h1 h2
  rcases Nat.lt_or_ge j i with c|c
  ·rw[List.getElem?_append_left (by rw[k.lb];exact c)] at h1
   rw[List.getElem?_append_left (by rw[k.lM];exact c)] at h2
   obtain ⟨p1,p2⟩:=k.rows j b' L' h1 h2
   exact ⟨dV p1 (hbt p1) _,p2⟩
  ·rw[List.getElem?_append_right (by rw[k.lb];exact c),k.lb] at h1
   rw[List.getElem?_append_right (by rw[k.lM];exact c),k.lM] at h2
   cases hj:j - i with
   | zero =>
     rw[hj] at h1 h2
     simp at h1 h2
     subst h1;subst h2
     exact ⟨dV ho (hbt ho) _,hL⟩
   | succ q=>rw[hj] at h1;simp at h1
 ·intro x y b' h1 h2
  have one:∀{x:Nat},(bs++[b])[x]? = some b'->bs[x]? = some b'\/(x=i/\b'=b):=by
   intro x h1
   rcases Nat.lt_or_ge x i with c|c
   ·rw[List.getElem?_append_left (by rw[k.lb];exact c)] at h1
    exact .inl h1
   ·rw[List.getElem?_append_right (by rw[k.lb];exact c),k.lb] at h1
    cases hj:x - i with
    | zero =>
      rw[hj] at h1
      simp at h1
      exact .inr ⟨by omega,h1.symm⟩
    | succ q=>rw[hj] at h1;simp at h1
  rcases one h1 with c1|⟨c1,c2⟩<;>rcases one h2 with d1|⟨d1,d2⟩
  ·exact k.dis _ _ _ c1 d1
  ·subst d2;exact absurd c1 (hb _)
  ·subst c2;exact absurd d1 (hb _)
  ·omega
 ·intro x b' h1
  rcases Nat.lt_or_ge x i with c|c
  ·rw[List.getElem?_append_left (by rw[k.lb];exact c)] at h1
   exact k.lo.2 _ _ h1
  ·rw[List.getElem?_append_right (by rw[k.lb];exact c),k.lb] at h1
   cases hj:x - i with
   | zero=>rw[hj] at h1;simp at h1;omega
   | succ q=>rw[hj] at h1;simp at h1
theorem MatP.fill {h1:Hp} {i:Nat} {b:Nat} {L L1:List Bool} (k:MatP h n0 tb n (i+1) (bs++[b]) (M++[L])) (x:ExtS (aR b) h h1) (hl:bs.length=i) (ho:h1.own b 4 (L1.map .bool)) (hL:L1.length=n):MatP h1 n0 tb n (i+1) (bs++[b]) (M++[L1]):=by
 have hM:M.length=i:=by have:=k.lM;simpa using this
 have hlast:(bs++[b])[i]? = some b:=by rw[List.getElem?_append_right (by omega),hl];simp
 have hlastM:(M++[L])[i]? = some L:=by rw[List.getElem?_append_right (by omega),hM];simp
 have htb:tb≠b:=by
  intro e
  have:=(k.rows i b L hlast hlastM).1.2.2
  rw[<-e,k.row.2.2] at this
  simp at this
 refine ⟨aJ x k.row htb,k.lb,by simpa using k.lM,?_,k.dis,k.lo⟩
 intro j b' L' h1' h2
 rcases Nat.lt_or_ge j i with c|c
 ·rw[List.getElem?_append_left (by rw[hM];exact c)] at h2
  obtain ⟨p1,p2⟩:=k.rows j b' L' h1' (by rw[List.getElem?_append_left (by rw[hM];exact c)];exact h2)
  refine ⟨aJ x p1 ?_,p2⟩
  intro e
  have e':b'=b:=e
  subst e'
  have:=k.dis _ _ _ h1' hlast
  omega
 ·rw[List.getElem?_append_right (by omega),hl] at h1'
  rw[List.getElem?_append_right (by omega),hM] at h2
  cases hj:j - i with
  | zero =>
    rw[hj] at h1' h2
    simp at h1' h2
    subst h1';subst h2
    exact ⟨ho,hL⟩
  | succ q=>rw[hj] at h1';simp at h1'
def gn (l:List ar) (em:List Bool) (x:ar):List Bool:=du (emf (nms l) em) (ae (nms l)) x.body (List.replicate l.length false)
theorem zO {l:List ar} {Av:Option Addr} {c b o:Nat} {css:Nat->List Value} (R:bd r l Av c b o css) (hnm:∀(i:Nat) (x:ar),l[i]? = some x->dm (nms l) x.body)
  {hA:Hp} (hAn:hA.next=n0) (hrom:hA.rom=r) (hbA:hA.base<=hA.next) (hBA:Book hA bk m eb G (nms l) em) {a:Ev.A} {Q:Ex->Ev.A->Hp->Prop} (hn:a.n=123) (hX:Ext hA h) (hM:MatP h n0 tb l.length 0 [] [])
  (g0:a.get 0=.pointer (some ⟨bk,0,none⟩)) (g3:a.get 3=.int .i64 l.length) (g4:a.get 4=.slice (some ⟨tb,0,none⟩) l.length l.length) (g25:a.get 25=.slice Av l.length c) (g26:a.get 26=.int .i64 l.length) (g27:a.get 27=.int .i64 0)
  (hq:∀a1 h1 bs,a1.n=123->Ext hA h1->Mat h1 n0 tb l.length bs (l.map (gn l em))->a1.get 0=.pointer (some ⟨bk,0,none⟩)->a1.get 3=.int .i64 l.length->a1.get 4=.slice (some ⟨tb,0,none⟩) l.length l.length->Q (.exit 0) a1 h1) :
  Th Tryz.prog (aw Tryz.f67 [1,1,1,0,1,0]) a h Q ⟨⟩ ⟨⟩:=by
 simp only[aw,nav,Tryz.f67]
 have hnl:(nms l).length=l.length:=by simp[nms]
 refine au (n:=123) (by kernel_rfl) (fun m' a' h'=>∃(j:Nat) (bs:List Nat),j<=l.length/\m'=l.length - j/\Ext hA h'/\MatP h' n0 tb l.length j bs ((l.take j).map (gn l em)) /\
  a'.get 0=.pointer (some ⟨bk,0,none⟩)/\a'.get 3=.int .i64 l.length/\a'.get 4=.slice (some ⟨tb,0,none⟩) l.length l.length/\a'.get 25=.slice Av l.length c/\a'.get 26=.int .i64 l.length/\a'.get 27=.int .i64 j) ?_ l.length _ _ hn ⟨0,[],lZr _,rfl,hX,by simpa using hM,g0,g3,g4,g25,g26,g27⟩
 rintro m' a' h' hn' ⟨j,bs,hj,rfl,hx,hM',e0,e3,e4,e25,e26,e27⟩
 have hb':h'.base<=h'.next:=by rw[hx.base];exact lTr hbA hx.next
 by_cases hlt:j<l.length
 ·have hi1:decide ((j:Int)<(l.length:Int))=true:=dcT (Int.ofNat_lt.2 hlt)
  have hpi:l[j]? = some l[j]:=gEl hlt
  obtain ⟨Av1,c1',hcs⟩:=(R.hk j _ hpi).shape
  have hat':=R.hat j _ hpi
  have hkid:=R.hk j _ hpi
  rw[hcs] at hat' hkid
  have hAv:=R.hA (aO hlt)
  subst hAv
  obtain ⟨vS,vO,vX,vB,vR⟩:=gE hb' (e:=50) (c0:=[.string ⟨#[]⟩,.string ⟨#[]⟩,.string ⟨#[]⟩,.slice none 0 0]) (c1:=[.string l[j].name,.string l[j].body.d,.string l[j].body.t,.slice Av1 l[j].body.l.length c1']) rfl rfl (by simp)
  have hro:h'.rom=r:=hx.rom.trans hrom
  simp -dsimp only[go_sem,e0,e3,e4,e25,e26,e27,hi1,eQ hlt,az (n:=4) hro hat' rfl,vS,jS l.length l.length (lRf _) R.hb,eU hlt]
  generalize h'.var 50 [.string ⟨#[]⟩,.string ⟨#[]⟩,.string ⟨#[]⟩,.slice none 0 0] [.string l[j].name,.string l[j].body.d,.string l[j].body.t,.slice Av1 l[j].body.l.length c1']=h2 at vS vO vX vB vR ⊢
  have hx2:=hx.trans vX
  have hE:=an vB 4 (aC [.bool false] l.length)
  rw[cl] at hE ⊢
  have hX3:=Ext.new h2 (ak.cells { c:=(List.replicate l.length false).map Value.bool,e:=4,fam:=0,base:=0,grown:=false })
  have hM3:=(hM'.ext vX).ext hX3
  have hfr:∀q:Nat,bs[q]? ≠ some h2.next:=by
   intro q hq
   have hqj:q<bs.length:=by
    rcases Nat.lt_or_ge q bs.length with c|c
    ·exact c
    ·rw[List.getElem?_eq_none c] at hq;cases hq
   have h4:q<((l.take j).map (gn l em)).length:=by rw[hM'.lM];have:=hM'.lb;omega
   have:=((hM'.ext vX).rows q _ _ hq (gEl h4)).1.2.1
   omega
  obtain ⟨cs,s1,s2⟩:=hM3.more hlt hfr (by rw[<-hAn];exact hx2.next) (L:=List.replicate l.length false) (by simp) hE
  have hO4:=dV (db vO (ak.cells { c:=(List.replicate l.length false).map Value.bool,e:=4,fam:=0,base:=0,grown:=false })) (d:=tb) (by
   have:=hM'.row.2.1
   omega) (.cells ⟨cs,58,0,0,false⟩)
  have hx4:=(hx2.trans hX3).put (b:=tb) (by rw[hAn];exact hM'.lo.1) (.cells ⟨cs,58,0,0,false⟩)
  simp -dsimp only[go_sem,s1]
  generalize (h2.newH (ak.cells { c:=(List.replicate l.length false).map Value.bool,e:=4,fam:=0,base:=0,grown:=false })).put tb (.cells ⟨cs,58,0,0,false⟩)=h3 at s2 hx4 hO4 ⊢
  refine qV (n:=123) (by simp -dsimp only[go_sem,hn']) (by kernel_rfl) ?_
  have hlast:(bs++[h2.next])[j]? = some h2.next:=by rw[List.getElem?_append_right (by rw[hM'.lb];exact lRf _),hM'.lb];simp
  have hld:h3.load ⟨tb,j,none⟩=some (.slice (some ⟨h2.next,0,none⟩) l.length l.length):=by
   rw[aa s2.row,List.getElem?_append_left (by simp[hM'.lb]),List.getElem?_map,hlast];rfl
  have hhas:((l.take j).map (gn l em)).length=j:=hM'.lM
  have hown:h3.own h2.next 4 ((List.replicate l.length false).map .bool):=(s2.rows j _ (List.replicate l.length false) hlast (by rw[List.getElem?_append_right (by omega),hhas];simp)).1
  simp -dsimp only[go_sem,e0,e3,e4,af hO4,eU hlt,hld,ab hkid.same]
  have hB3:=hBA.ext hx4
  have hbn:∀{q:Nat},q<hA.next->q≠h2.next:=fun hq e=>by have:=hx2.next;omega
  obtain ⟨_,h5,hs5,rfl,hx5,hown5⟩:=BI (r:=r) (G:=G) (names:=nms l) (em:=em) (tb:=h2.next) (hbn hBA.own.2.1) (hbn hBA.map.1) (hbn hBA.row.2.1) _ l[j].body (lSs _) h3 _ (List.replicate l.length false) (hx4.rom.trans hrom) (by rw[hx4.base];exact lTr hbA hx4.next) hB3 hkid (hnm j _ hpi) hown (by simp[hnl])
  rw[hnl] at hs5
  refine ⟨_,h5,hs5,?_⟩
  have hM5:=s2.fill hx5 hM'.lb hown5 (by rw[bY];simp)
  have hx6:Ext hA h5:=(hx4.toS.trans hx5).ext (fun q hq hs=>hbn hq hs)
  simp -dsimp only[go_sem,e26,e27,ah hlt (lTr R.hb (by decide))]
  refine ⟨l.length - (j+1),by omega,j+1,bs++[h2.next],hlt,rfl,hx6,?_,e0,e3,e4,e25,rfl⟩
  have htk:(l.take (j+1)).map (gn l em)=(l.take j).map (gn l em)++[gn l em l[j]]:=by
   rw[List.take_succ_eq_append_getElem hlt,List.map_append];rfl
  rw[htk]
  exact hM5
 ·have hi0:decide ((j:Int)<(l.length:Int))=false:=dcF (by omega)
  have hjn:j=l.length:=by omega
  subst hjn
  rw[List.take_length] at hM'
  simp -dsimp only[go_sem,e26,e27,hi0]
  exact hq _ _ bs (by simp -dsimp only[go_sem,hn']) hx hM'.full (by simp -dsimp only[go_sem,e0]) (by simp -dsimp only[go_sem,e3]) (by simp -dsimp only[go_sem,e4])
end
section
variable {r:Ro} {bk m eb:Nat} {G:Value} {em:List Bool} {h:Hp} {n0 tb n:Nat} {bs:List Nat} {M:List (List Bool)}
def eO (l:List ar) (em:List Bool):List (List Bool):=pe l.length (l.map (gn l em))
def eT (l:List ar) (em:List Bool):List Bool:=l.mapIdx fun i x=>bN (eO l em) i i||fX (emf (nms l) em) x.body
theorem gQ (l:List ar) (em:List Bool):(eT l em).length=l.length:=by simp[eT]
theorem BK {l:List ar} {Av:Option Addr} {c b o:Nat} {css:Nat->List Value} (R:bd r l Av c b o css) (hnm:∀(i:Nat) (x:ar),l[i]? = some x->dm (nms l) x.body)
  {hA:Hp} (hrom:hA.rom=r) (hbA:hA.base<=hA.next) (hBA:Book hA bk m eb G (nms l) em) {a:Ev.A} {Q:Ex->Ev.A->Hp->Prop} (hn:a.n=123) (hX:Ext hA h) (hM:Mat h n0 tb l.length bs (eO l em)) {ob:Nat} (hlo:hA.next<=ob) (hob:∀i:Nat,bs[i]? ≠ some ob)
  (hO:h.own ob 4 ((List.replicate l.length false).map .bool))
  (g0:a.get 0=.pointer (some ⟨bk,0,none⟩)) (g4:a.get 4=.slice (some ⟨tb,0,none⟩) l.length l.length) (g10:a.get 10=.slice (some ⟨ob,0,none⟩) l.length l.length) (g25:a.get 98=.slice Av l.length c) (g26:a.get 99=.int .i64 l.length) (g27:a.get 100=.int .i64 0)
  (hq:∀a1 h1,a1.n=123->Ext hA h1->h1.own ob 4 ((eT l em).map .bool)->a1.get 10=.slice (some ⟨ob,0,none⟩) l.length l.length->Q (.exit 8) a1 h1) :
  Th Tryz.prog (aw Tryz.f67 [1,1,1,1,1,1,0,1,0]) a h Q ⟨⟩ ⟨⟩:=by
 simp only[aw,nav,Tryz.f67]
 have hnl:(nms l).length=l.length:=by simp[nms]
 refine au (n:=123) (by kernel_rfl) (fun m' a' h'=>∃(j:Nat) (out:List Bool),j<=l.length/\m'=l.length - j/\Ext hA h'/\Mat h' n0 tb l.length bs (eO l em)/\h'.own ob 4 (out.map .bool)/\out.length=l.length/\(∀q,q<j->out[q]? = (eT l em)[q]?) /\
  a'.get 0=.pointer (some ⟨bk,0,none⟩)/\a'.get 4=.slice (some ⟨tb,0,none⟩) l.length l.length/\a'.get 10=.slice (some ⟨ob,0,none⟩) l.length l.length/\a'.get 98=.slice Av l.length c/\a'.get 99=.int .i64 l.length/\a'.get 100=.int .i64 j) ?_ l.length _ _ hn ⟨0,_,lZr _,rfl,hX,hM,hO,by simp,fun q hq=>absurd hq (lNz _),g0,g4,g10,g25,g26,g27⟩
 rintro m' a' h' hn' ⟨j,out,hj,rfl,hx,hM',hO',hol,hoq,e0,e4,e10,e98,e99,e100⟩
 have hb':h'.base<=h'.next:=by rw[hx.base];exact lTr hbA hx.next
 by_cases hlt:j<l.length
 ·have hi1:decide ((j:Int)<(l.length:Int))=true:=dcT (Int.ofNat_lt.2 hlt)
  have hpi:l[j]? = some l[j]:=gEl hlt
  obtain ⟨Av1,c1',hcs⟩:=(R.hk j _ hpi).shape
  have hat':=R.hat j _ hpi
  have hkid:=R.hk j _ hpi
  rw[hcs] at hat' hkid
  have hAv:=R.hA (aO hlt)
  subst hAv
  obtain ⟨vS,vO,vX,vB,vR⟩:=gE hb' (e:=50) (c0:=[.string ⟨#[]⟩,.string ⟨#[]⟩,.string ⟨#[]⟩,.slice none 0 0]) (c1:=[.string l[j].name,.string l[j].body.d,.string l[j].body.t,.slice Av1 l[j].body.l.length c1']) rfl rfl (by simp)
  have hro:h'.rom=r:=hx.rom.trans hrom
  have hM2:=hM'.ext vX
  have hO2:=aj vX hO'
  have hx2:=hx.trans vX
  obtain ⟨bj,Lj,q1,q2,q3,q4,q5,q6⟩:=hM2.at hlt
  have q6j:=q6 j hlt
  have hrq:(eT l em)[j]? = some (bN (eO l em) j j||fX (emf (nms l) em) l[j].body):=by
   simp[eT,List.getElem?_mapIdx,hpi]
  have next:∀{v:Bool} {h3:Hp},Ext hA h3->Mat h3 n0 tb l.length bs (eO l em)->h3.own ob 4 (out.map .bool)->(eT l em)[j]? = some v ->
    h3.stores ⟨ob,j,none⟩ [.bool v]=some (h3.put ob (.cells ⟨(out.set j v).map .bool,4,0,0,false⟩))/\Ext hA (h3.put ob (.cells ⟨(out.set j v).map .bool,4,0,0,false⟩))/\Mat (h3.put ob (.cells ⟨(out.set j v).map .bool,4,0,0,false⟩)) n0 tb l.length bs (eO l em) /\
    (h3.put ob (.cells ⟨(out.set j v).map .bool,4,0,0,false⟩)).own ob 4 ((out.set j v).map .bool)/\(out.set j v).length=l.length/\∀q,q<j+1->(out.set j v)[q]? = (eT l em)[q]? := by
   intro v h3 k1 k2 k3 k4
   refine ⟨aE k3 rfl (pd v (by rw[hol];exact hlt)) (by simp),k1.put hlo _,?_,av k3 _,by simp[hol],?_⟩
   ·refine ⟨dV k2.row ?_ _,k2.lb,k2.lM,?_,k2.dis,k2.lo⟩
    ·intro e
     have:=k2.row.2.2
     rw[e,k3.2.2] at this
     simp at this
    ·intro i' b' L' h1' h2'
     obtain ⟨p1,p2⟩:=k2.rows i' b' L' h1' h2'
     refine ⟨dV p1 ?_ _,p2⟩
     intro e
     subst e
     exact hob _ h1'
   ·intro q hq
    rw[List.getElem?_set]
    by_cases e:j=q
    ·subst e
     rw[if_pos rfl,if_pos (by rw[hol];exact hlt),k4]
    ·rw[if_neg e]
     exact hoq q (by omega)
  cases hjj:bN (eO l em) j j with
  | true =>
    rw[hjj] at q6j hrq
    rw[Bool.true_or] at hrq
    obtain ⟨n1,n2,n3,n4,n5,n6⟩:=next hx2 hM2 hO2 hrq
    simp -dsimp only[go_sem,ai,e0,e4,e10,e98,e99,e100,hi1,eQ hlt,az (n:=4) hro hat' rfl,vS,eU hlt,bM hlt,q5,q6j,n1,ah hlt (lTr R.hb (by decide))]
    exact ⟨l.length - (j+1),by omega,j+1,_,hlt,rfl,n2,n3,n4,n5,n6,rfl⟩
  | false =>
    rw[hjj] at q6j hrq
    rw[Bool.false_or] at hrq
    simp -dsimp only[go_sem,e0,e4,e10,e98,e99,e100,hi1,eQ hlt,az (n:=4) hro hat' rfl,vS,eU hlt,bM hlt,q5,q6j,af vO]
    obtain ⟨_,h5,hs5,rfl,hx5⟩:=Da (em:=em) (G:=G) _ l[j].body (lSs _) _ _ (vR.trans hro) vB (hBA.ext hx2) hkid (hnm j _ hpi)
    refine ⟨_,h5,hs5,?_⟩
    obtain ⟨n1,n2,n3,n4,n5,n6⟩:=next (hx2.trans hx5) (hM2.ext hx5) (aj hx5 hO2) hrq
    simp -dsimp only[go_sem,e0,e4,e10,e98,e99,e100,bM hlt,n1,ah hlt (lTr R.hb (by decide))]
    exact ⟨l.length - (j+1),by omega,j+1,_,hlt,rfl,n2,n3,n4,n5,n6,rfl⟩
 ·have hi0:decide ((j:Int)<(l.length:Int))=false:=dcF (by omega)
  have hjn:j=l.length:=by omega
  subst hjn
  simp -dsimp only[go_sem,e99,e100,hi0]
  have he:out=eT l em:=by
   apply List.ext_getElem?
   intro q
   rcases Nat.lt_or_ge q l.length with c|c
   ·exact hoq q c
   ·rw[List.getElem?_eq_none (by omega),List.getElem?_eq_none (by rw[gQ];exact c)]
  subst he
  exact hq _ _ (by simp -dsimp only[go_sem,hn']) hx hO' (by simp -dsimp only[go_sem,e10])
theorem ln:∀n:Nat,aC [.slice none 0 0] n=List.replicate n (Value.slice none 0 0)
 | 0=>rfl
 | n+1=>by simp only[aC,ln n,List.replicate_succ,List.cons_append,List.nil_append]
theorem tq {l:List ar} {Av:Option Addr} {c b o:Nat} {css:Nat->List Value} (R:bd r l Av c b o css) (hnm:∀(i:Nat) (x:ar),l[i]? = some x->dm (nms l) x.body) (h:Hp) (hrom:h.rom=r) (hb:h.base<=h.next) (hB:Book h bk m eb (.slice Av l.length c) (nms l) em) :
  ∃v h1,Snd Tryz.prog 67 [.pointer (some ⟨bk,0,none⟩)] h v h1/\Ext h h1/\∃ob,v=.slice (some ⟨ob,0,none⟩) l.length l.length/\h.next<=ob/\h1.own ob 4 ((eT l em).map .bool):=by
 refine aL wf Tryz.func67 rfl rfl (n:=123) rfl (by kernel_rfl) rfl ?_
 intro a hn hg
 have hr:Tryz.f67.results.toList=[.tmp 2]:=rfl
 have g0:=hg 0
 clear hg
 simp only[gC0,gC1] at g0
 have hx1:=Ext.new h (ak.cells { c:=List.replicate l.length (.slice none 0 0),e:=58,fam:=0,base:=0,grown:=false })
 have hT:=an hb 58 (List.replicate l.length (.slice none 0 0))
 have hB1:=hB.ext hx1
 simp -dsimp only[go_sem,g0,aa hB.own,D3 l.length l.length (lRf _) R.hb,ln,aa hB1.own]
 generalize h.newH (ak.cells { c:=List.replicate l.length (.slice none 0 0),e:=58,fam:=0,base:=0,grown:=false })=h1 at hx1 hT hB1 ⊢
 refine zO (n0:=h.next) (tb:=h.next) (h:=h1) R hnm (hA:=h) rfl hrom hb hB (by simp -dsimp only[go_sem,hn]) hx1 ⟨by simpa using hT,rfl,rfl,fun _ _ _ e=>(by simp at e),fun _ _ _ e=>(by simp at e),lRf _,fun _ _ e=>(by simp at e)⟩ (by simp -dsimp only[go_sem,g0]) (by simp -dsimp only[go_sem]) (by simp -dsimp only[go_sem]) (by simp -dsimp only[go_sem]) (by simp -dsimp only[go_sem]) (by simp -dsimp only[go_sem]) (fun a2 h2 bs hn2 hx2 hM2 e0 e3 e4 => ?_)
 simp -dsimp only[go_sem,e3]
 refine DU R.hb (hA:=h) rfl (x0:=.pointer (some ⟨bk,0,none⟩)) (by simp -dsimp only[go_sem,hn2]) hx2 hM2 (by simp -dsimp only[go_sem,e0]) (by simp -dsimp only[go_sem,e3]) (by simp -dsimp only[go_sem,e4]) (by simp -dsimp only[go_sem]) (by simp -dsimp only[go_sem]) (fun a3 h3 hn3 hx3 hM3 f0 f3 f4 => ?_)
 have hb3:h3.base<=h3.next:=by rw[hx3.base];exact lTr hb hx3.next
 have hO:=an hb3 4 ((List.replicate l.length false).map .bool)
 have hx4:=Ext.new h3 (ak.cells { c:=(List.replicate l.length false).map Value.bool,e:=4,fam:=0,base:=0,grown:=false })
 have hB4:=hB.ext (hx3.trans hx4)
 simp -dsimp only[go_sem,f0,f3,jS l.length l.length (lRf _) R.hb,cl,aa hB4.own]
 have hob:∀i:Nat,bs[i]? ≠ some h3.next:=by
  intro i hi
  have hil:i<l.length:=by
   rw[<-hM3.lb]
   rcases Nat.lt_or_ge i bs.length with c|c
   ·exact c
   ·rw[List.getElem?_eq_none c] at hi;cases hi
  obtain ⟨b',L,q1,q2,q3,_⟩:=hM3.at hil
  rw[hi] at q1
  injection q1 with q1
  subst q1
  exact absurd q3.2.1 (Nat.lt_irrefl _)
 refine BK R hnm (hA:=h) (ob:=h3.next) (tb:=h.next) (n0:=h.next) (bs:=bs) hrom hb hB (by simp -dsimp only[go_sem,hn3]) (hx3.trans hx4) (hM3.ext hx4) hx3.next hob hO (by simp -dsimp only[go_sem,f0]) (by simp -dsimp only[go_sem,f4]) (by simp -dsimp only[go_sem]) (by simp -dsimp only[go_sem]) (by simp -dsimp only[go_sem]) (by simp -dsimp only[go_sem]) (fun a5 h5 hn5 hx5 hO5 q10 => ?_)
 simp -dsimp only[go_sem,q10,hr]
 exact ⟨hx5,_,rfl,hx3.next,hO5⟩
end
abbrev bs (s:ByteArray):List UInt8:=s.data.toList
theorem EI (P:Program) (hu:P.underlying 9=some .string) {s:ByteArray} {i:Nat} {b:UInt8} (h:s.data.toList[i]? = some b):jV P 9 (.string s) (.int .i64 (i:Int))=some (.int .u8 (b.toNat:Int)):=by
 have:gG (.int .i64 (i:Int))=some i:=rfl
 simp only[jV,hu,this,h]
theorem iD {s:ByteArray} {i:Nat} {b:UInt8} (h:s.data.toList[i]? = some b):jV Tryz.prog 9 (.string s) (.int .i64 (i:Int))=some (.int .u8 (b.toNat:Int)):=EI _ Tryz.underlying9 h
theorem DV {s:ByteArray} {b:UInt8} (h:s.data.toList[0]? = some b):jV Tryz.prog 9 (.string s) (.int .i64 0)=some (.int .u8 (b.toNat:Int)):=iD (i:=0) h
def ea (lo hi n:Nat):Bool:=decide (lo<=n)&&decide (n<=hi)
def df (n:Nat):Bool:=ea 65 90 n||ea 97 122 n||ea 48 57 n||decide (n=95)
theorem vV (b:UInt8) (h:Hp):Snd Tryz.prog 56 [.int .u8 (b.toNat:Int)] h (.bool (ea 97 122 b.toNat)) h:=by
 obtain ⟨_,_,hs,rfl,rfl⟩:∃v h1,Snd Tryz.prog 56 [.int .u8 (b.toNat:Int)] h v h1/\v=.bool (ea 97 122 b.toNat)/\h1=h:=by
  refine aL wf Tryz.func56 rfl rfl (n:=9) rfl (by kernel_rfl) rfl ?_
  intro a hn hg
  have hr:Tryz.f56.results.toList=[.tmp 2]:=rfl
  have g0:=hg 0
  clear hg
  simp only[gC0] at g0
  have e1:decide ((97:Int)<=(b.toNat:Int))=decide (97<=b.toNat):=by rw[Bool.eq_iff_iff];simp;omega
  have e2:decide ((b.toNat:Int)<=122)=decide (b.toNat<=122):=by rw[Bool.eq_iff_iff];simp;omega
  unfold ea
  cases c1:decide (97<=b.toNat) with
  | false=>simp -dsimp only[go_sem,g0,e1,e2,c1,hr,ai,Bool.false_and]
  | true=>simp -dsimp only[go_sem,g0,e1,e2,c1,hr,ai,Bool.true_and]
 exact hs
theorem BL (b:UInt8) (h:Hp):Snd Tryz.prog 89 [.int .u8 (b.toNat:Int)] h (.bool (ea 65 90 b.toNat)) h:=by
 obtain ⟨_,_,hs,rfl,rfl⟩:∃v h1,Snd Tryz.prog 89 [.int .u8 (b.toNat:Int)] h v h1/\v=.bool (ea 65 90 b.toNat)/\h1=h:=by
  refine aL wf Tryz.func89 rfl rfl (n:=9) rfl (by kernel_rfl) rfl ?_
  intro a hn hg
  have hr:Tryz.f89.results.toList=[.tmp 2]:=rfl
  have g0:=hg 0
  clear hg
  simp only[gC0] at g0
  have e1:decide ((65:Int)<=(b.toNat:Int))=decide (65<=b.toNat):=by rw[Bool.eq_iff_iff];simp;omega
  have e2:decide ((b.toNat:Int)<=90)=decide (b.toNat<=90):=by rw[Bool.eq_iff_iff];simp;omega
  unfold ea
  cases c1:decide (65<=b.toNat) with
  | false=>simp -dsimp only[go_sem,g0,e1,e2,c1,hr,ai,Bool.false_and]
  | true=>simp -dsimp only[go_sem,g0,e1,e2,c1,hr,ai,Bool.true_and]
 exact hs
theorem BM (b:UInt8) (h:Hp):Snd Tryz.prog 90 [.int .u8 (b.toNat:Int)] h (.bool (ea 48 57 b.toNat)) h:=by
 obtain ⟨_,_,hs,rfl,rfl⟩:∃v h1,Snd Tryz.prog 90 [.int .u8 (b.toNat:Int)] h v h1/\v=.bool (ea 48 57 b.toNat)/\h1=h:=by
  refine aL wf Tryz.func90 rfl rfl (n:=9) rfl (by kernel_rfl) rfl ?_
  intro a hn hg
  have hr:Tryz.f90.results.toList=[.tmp 2]:=rfl
  have g0:=hg 0
  clear hg
  simp only[gC0] at g0
  have e1:decide ((48:Int)<=(b.toNat:Int))=decide (48<=b.toNat):=by rw[Bool.eq_iff_iff];simp;omega
  have e2:decide ((b.toNat:Int)<=57)=decide (b.toNat<=57):=by rw[Bool.eq_iff_iff];simp;omega
  unfold ea
  cases c1:decide (48<=b.toNat) with
  | false=>simp -dsimp only[go_sem,g0,e1,e2,c1,hr,ai,Bool.false_and]
  | true=>simp -dsimp only[go_sem,g0,e1,e2,c1,hr,ai,Bool.true_and]
 exact hs
theorem tu (b:UInt8) (h:Hp):Snd Tryz.prog 96 [.int .u8 (b.toNat:Int)] h (.bool (ea 97 122 b.toNat)) h:=by
 obtain ⟨_,_,hs,rfl,rfl⟩:∃v h1,Snd Tryz.prog 96 [.int .u8 (b.toNat:Int)] h v h1/\v=.bool (ea 97 122 b.toNat)/\h1=h:=by
  refine aL wf Tryz.func96 rfl rfl (n:=9) rfl (by kernel_rfl) rfl ?_
  intro a hn hg
  have hr:Tryz.f96.results.toList=[.tmp 2]:=rfl
  have g0:=hg 0
  clear hg
  simp only[gC0] at g0
  have e1:decide ((97:Int)<=(b.toNat:Int))=decide (97<=b.toNat):=by rw[Bool.eq_iff_iff];simp;omega
  have e2:decide ((b.toNat:Int)<=122)=decide (b.toNat<=122):=by rw[Bool.eq_iff_iff];simp;omega
  unfold ea
  cases c1:decide (97<=b.toNat) with
  | false=>simp -dsimp only[go_sem,g0,e1,e2,c1,hr,ai,Bool.false_and]
  | true=>simp -dsimp only[go_sem,g0,e1,e2,c1,hr,ai,Bool.true_and]
 exact hs
theorem BN (b:UInt8) (h:Hp):Snd Tryz.prog 119 [.int .u8 (b.toNat:Int)] h (.bool (ea 65 90 b.toNat)) h:=by
 obtain ⟨_,_,hs,rfl,rfl⟩:∃v h1,Snd Tryz.prog 119 [.int .u8 (b.toNat:Int)] h v h1/\v=.bool (ea 65 90 b.toNat)/\h1=h:=by
  refine aL wf Tryz.func119 rfl rfl (n:=9) rfl (by kernel_rfl) rfl ?_
  intro a hn hg
  have hr:Tryz.f119.results.toList=[.tmp 2]:=rfl
  have g0:=hg 0
  clear hg
  simp only[gC0] at g0
  have e1:decide ((65:Int)<=(b.toNat:Int))=decide (65<=b.toNat):=by rw[Bool.eq_iff_iff];simp;omega
  have e2:decide ((b.toNat:Int)<=90)=decide (b.toNat<=90):=by rw[Bool.eq_iff_iff];simp;omega
  unfold ea
  cases c1:decide (65<=b.toNat) with
  | false=>simp -dsimp only[go_sem,g0,e1,e2,c1,hr,ai,Bool.false_and]
  | true=>simp -dsimp only[go_sem,g0,e1,e2,c1,hr,ai,Bool.true_and]
 exact hs
theorem zP (b:UInt8) (h:Hp):Snd Tryz.prog 120 [.int .u8 (b.toNat:Int)] h (.bool (ea 48 57 b.toNat)) h:=by
 obtain ⟨_,_,hs,rfl,rfl⟩:∃v h1,Snd Tryz.prog 120 [.int .u8 (b.toNat:Int)] h v h1/\v=.bool (ea 48 57 b.toNat)/\h1=h:=by
  refine aL wf Tryz.func120 rfl rfl (n:=9) rfl (by kernel_rfl) rfl ?_
  intro a hn hg
  have hr:Tryz.f120.results.toList=[.tmp 2]:=rfl
  have g0:=hg 0
  clear hg
  simp only[gC0] at g0
  have e1:decide ((48:Int)<=(b.toNat:Int))=decide (48<=b.toNat):=by rw[Bool.eq_iff_iff];simp;omega
  have e2:decide ((b.toNat:Int)<=57)=decide (b.toNat<=57):=by rw[Bool.eq_iff_iff];simp;omega
  unfold ea
  cases c1:decide (48<=b.toNat) with
  | false=>simp -dsimp only[go_sem,g0,e1,e2,c1,hr,ai,Bool.false_and]
  | true=>simp -dsimp only[go_sem,g0,e1,e2,c1,hr,ai,Bool.true_and]
 exact hs
theorem Dc (b:UInt8) (h:Hp):Snd Tryz.prog 76 [.int .u8 (b.toNat:Int)] h (.bool (df b.toNat)) h:=by
 obtain ⟨_,_,hs,rfl,rfl⟩:∃v h1,Snd Tryz.prog 76 [.int .u8 (b.toNat:Int)] h v h1/\v=.bool (df b.toNat)/\h1=h:=by
  refine aL wf Tryz.func76 rfl rfl (n:=17) rfl (by kernel_rfl) rfl ?_
  intro a hn hg
  have hr:Tryz.f76.results.toList=[.tmp 2]:=rfl
  have g0:=hg 0
  clear hg
  simp only[gC0] at g0
  have e3:decide ((b.toNat:Int)=95)=decide (b.toNat=95):=by rw[Bool.eq_iff_iff];simp;omega
  unfold df
  simp -dsimp only[go_sem,g0]
  refine ⟨_,_,BL b h,?_⟩
  cases k1:ea 65 90 b.toNat with
  | true=>simp -dsimp only[go_sem,g0,hr,ai,Bool.true_or,Bool.or_true]
  | false =>
    simp -dsimp only[go_sem,g0,ai]
    refine ⟨_,_,vV b h,?_⟩
    cases k2:ea 97 122 b.toNat with
    | true=>simp -dsimp only[go_sem,g0,hr,ai,Bool.true_or,Bool.or_true]
    | false =>
      simp -dsimp only[go_sem,g0,ai]
      refine ⟨_,_,BM b h,?_⟩
      cases k3:ea 48 57 b.toNat with
      | true=>simp -dsimp only[go_sem,g0,hr,ai,Bool.true_or,Bool.or_true]
      | false=>simp -dsimp only[go_sem,g0,hr,ai,Bool.false_or,e3]
 exact hs
theorem BO (b:UInt8) (h:Hp):Snd Tryz.prog 110 [.int .u8 (b.toNat:Int)] h (.bool (df b.toNat)) h:=by
 obtain ⟨_,_,hs,rfl,rfl⟩:∃v h1,Snd Tryz.prog 110 [.int .u8 (b.toNat:Int)] h v h1/\v=.bool (df b.toNat)/\h1=h:=by
  refine aL wf Tryz.func110 rfl rfl (n:=17) rfl (by kernel_rfl) rfl ?_
  intro a hn hg
  have hr:Tryz.f110.results.toList=[.tmp 2]:=rfl
  have g0:=hg 0
  clear hg
  simp only[gC0] at g0
  have e3:decide ((b.toNat:Int)=95)=decide (b.toNat=95):=by rw[Bool.eq_iff_iff];simp;omega
  unfold df
  simp -dsimp only[go_sem,g0]
  refine ⟨_,_,tu b h,?_⟩
  cases k1:ea 97 122 b.toNat with
  | true=>simp -dsimp only[go_sem,g0,hr,ai,Bool.true_or,Bool.or_true]
  | false =>
    simp -dsimp only[go_sem,g0,ai]
    refine ⟨_,_,BN b h,?_⟩
    cases k2:ea 65 90 b.toNat with
    | true=>simp -dsimp only[go_sem,g0,hr,ai,Bool.true_or,Bool.or_true]
    | false =>
      simp -dsimp only[go_sem,g0,ai]
      refine ⟨_,_,zP b h,?_⟩
      cases k3:ea 48 57 b.toNat with
      | true=>simp -dsimp only[go_sem,g0,hr,ai,Bool.true_or,Bool.or_true]
      | false=>simp -dsimp only[go_sem,g0,hr,ai,Bool.false_or,e3]
 exact hs
abbrev jb (s:ByteArray):Prop:=s.size<=4611686018427387904
theorem fM {s:ByteArray} (h:jb s):s.data.toList.length<=9223372036854775807:=by
 rw[Array.length_toList]
 have:s.data.size<=4611686018427387904:=h
 omega
theorem gR {p:UInt8->Bool} {l:List UInt8} {i:Nat} (hi:i<l.length):(l.take (i+1)).all p=((l.take i).all p&&p l[i]):=by
 rw[List.take_succ_eq_append_getElem hi,List.all_append]
 simp
theorem nj {p:UInt8->Bool} {l:List UInt8} {i:Nat} (hi:i<l.length) (h:p l[i]=false):l.all p=false:=by
 rw[Bool.eq_false_iff]
 intro c
 rw[List.all_eq_true.1 c _ (List.getElem_mem hi)] at h
 cases h
theorem BP (s:ByteArray) (hs:jb s) (h:Hp):Snd Tryz.prog 57 [.string s] h (.bool ((bs s).all fun b=>df b.toNat)) h:=by
 obtain ⟨_,_,hs,rfl,rfl⟩:∃v h1,Snd Tryz.prog 57 [.string s] h v h1/\v=.bool ((bs s).all fun b=>df b.toNat)/\h1=h:=by
  refine aL wf Tryz.func57 rfl rfl (n:=15) rfl (by kernel_rfl) rfl ?_
  intro a hn hg
  have hr:Tryz.f57.results.toList=[.tmp 2]:=rfl
  have g0:=hg 0
  clear hg
  simp only[gC0] at g0
  simp -dsimp only[go_sem,g0]
  refine au (n:=15) (by kernel_rfl) (fun m' a' h'=>∃i:Nat,i<=(bs s).length/\m'=(bs s).length - i/\h'=h/\((bs s).take i).all (fun b=>df b.toNat)=true /\
   a'.get 0=.string s/\a'.get 5=.int .i64 ((bs s).length:Int)/\a'.get 6=.int .i64 (i:Int)) ?_ (bs s).length _ _ (by simp -dsimp only[go_sem,hn]) ⟨0,lZr _,rfl,rfl,rfl,by simp -dsimp only[go_sem,g0],by simp -dsimp only[go_sem],by simp -dsimp only[go_sem];rfl⟩
  rintro m' a' h' hn' ⟨i,hi,rfl,rfl,hst,e0,e5,e6⟩
  by_cases hlt:i<(bs s).length
  rotate_left
  ·have hi0:decide ((i:Int)<((bs s).length:Int))=false:=dcF (by omega)
   rw[List.take_of_length_le (by omega)] at hst
   simp -dsimp only[go_sem,e5,e6,hi0,hr,hst]
  have hi1:decide ((i:Int)<((bs s).length:Int))=true:=dcT (Int.ofNat_lt.2 hlt)
  simp -dsimp only[go_sem,e0,e5,e6,hi1,iD (gEl hlt)]
  refine ⟨_,_,Dc _ h',?_⟩
  cases hm:df (bs s)[i].toNat with
  | false =>
    simp -dsimp only[go_sem,Bool.not_false,hr,nj (p:=fun b=>df b.toNat) hlt hm]
  | true =>
    simp -dsimp only[go_sem,Bool.not_true,e5,e6,ah hlt (fM hs)]
    exact ⟨(bs s).length - (i+1),by omega,i+1,hlt,rfl,by rw[gR hlt,hst,hm];rfl,e0,rfl⟩
 exact hs
theorem xz (s:ByteArray) (hs:jb s) (h:Hp):Snd Tryz.prog 95 [.string s] h (.bool (((bs s).all fun b=>df b.toNat)&&(!decide (bs s=[])&&decide ((bs s).length<=60)))) h:=by
 obtain ⟨_,_,hs,rfl,rfl⟩:∃v h1,Snd Tryz.prog 95 [.string s] h v h1/\v=.bool (((bs s).all fun b=>df b.toNat)&&(!decide (bs s=[])&&decide ((bs s).length<=60)))/\h1=h:=by
  refine aL wf Tryz.func95 rfl rfl (n:=22) rfl (by kernel_rfl) rfl ?_
  intro a hn hg
  have hr:Tryz.f95.results.toList=[.tmp 2]:=rfl
  have g0:=hg 0
  clear hg
  simp only[gC0] at g0
  simp -dsimp only[go_sem,g0]
  refine au (n:=22) (by kernel_rfl) (fun m' a' h'=>∃i:Nat,i<=(bs s).length/\m'=(bs s).length - i/\h'=h/\((bs s).take i).all (fun b=>df b.toNat)=true /\
   a'.get 0=.string s/\a'.get 3=.int .i64 (i:Int)) ?_ (bs s).length _ _ (by simp -dsimp only[go_sem,hn]) ⟨0,lZr _,rfl,rfl,rfl,by simp -dsimp only[go_sem,g0],by simp -dsimp only[go_sem];rfl⟩
  rintro m' a' h' hn' ⟨i,hi,rfl,rfl,hst,e0,e3⟩
  by_cases hlt:i<(bs s).length
  rotate_left
  ·have hi0:decide ((i:Int)<((bs s).length:Int))=false:=dcF (by omega)
   rw[List.take_of_length_le (by omega)] at hst
   have e60:decide (((bs s).length:Int)<=60)=decide ((bs s).length<=60):=by rw[Bool.eq_iff_iff];simp;omega
   cases ce:decide (bs s=[]) with
   | true=>simp -dsimp only[go_sem,e0,e3,hi0,hr,hst,ce,ai,Bool.not_true,Bool.true_and,Bool.false_and]
   | false=>simp -dsimp only[go_sem,e0,e3,hi0,hr,hst,ce,ai,e60,Bool.not_false,Bool.true_and]
  have hi1:decide ((i:Int)<((bs s).length:Int))=true:=dcT (Int.ofNat_lt.2 hlt)
  simp -dsimp only[go_sem,e0,e3,hi1,iD (gEl hlt)]
  refine ⟨_,_,BO _ h',?_⟩
  cases hm:df (bs s)[i].toNat with
  | false =>
    simp -dsimp only[go_sem,Bool.not_false,hr,nj (p:=fun b=>df b.toNat) hlt hm,Bool.false_and]
  | true =>
    simp -dsimp only[go_sem,Bool.not_true,e3,ah hlt (fM hs)]
    exact ⟨(bs s).length - (i+1),by omega,i+1,hlt,rfl,by rw[gR hlt,hst,hm];rfl,e0,rfl⟩
 exact hs
def py:List (List UInt8):=[[97,110,100,116,104,101,110],[97,116],[98,121],[99,97,115,101],[99,97,116,99,104],[99,104,111,105,99,101],[100,105,118],[100,111],[101,97,99,104],[101,108,115,101],[101,110,100],[102,111,114],[102,117,110],[105,102],[105,110],[108,97,122,121],[108,111,99,97,108],[108,111,99,107],[109,111,100],[111,114,101,108,115,101],[112,114,111,99],[114,97,105,115,101],[115,107,105,112],[116,104,101,110],[116,104,114,101,97,100],[116,114,121],[111,102]]
theorem bq {l w:List UInt8} (h:l=w) (hw:w∈py):decide (l∈py)=true:=by
 subst h
 exact dcT hw
theorem BQ (s:ByteArray) (h:Hp):Snd Tryz.prog 58 [.string s] h (.bool (decide (bs s∈py))) h:=by
 obtain ⟨_,_,hs,rfl,rfl⟩:∃v h1,Snd Tryz.prog 58 [.string s] h v h1/\v=.bool (decide (bs s∈py))/\h1=h:=by
  refine aL wf Tryz.func58 rfl rfl (n:=32) rfl (by kernel_rfl) rfl ?_
  intro a hn hg
  have hr:Tryz.f58.results.toList=[.tmp 2]:=rfl
  have g0:=hg 0
  clear hg
  simp only[gC0] at g0
  simp -dsimp only[go_sem,g0]
  refine aT (fun hm => ?_) (fun hm => ?_)
  ·simp -dsimp only[go_sem,hr,hm,bq (dcO hm) (by decide)]
  have n0:=of_decide_eq_false hm
  simp -dsimp only[go_sem,g0,hr,hm]
  clear hm
  refine aT (fun hm => ?_) (fun hm => ?_)
  ·simp -dsimp only[go_sem,hr,hm,bq (dcO hm) (by decide)]
  have n1:=of_decide_eq_false hm
  simp -dsimp only[go_sem,g0,hr,hm]
  clear hm
  refine aT (fun hm => ?_) (fun hm => ?_)
  ·simp -dsimp only[go_sem,hr,hm,bq (dcO hm) (by decide)]
  have n2:=of_decide_eq_false hm
  simp -dsimp only[go_sem,g0,hr,hm]
  clear hm
  refine aT (fun hm => ?_) (fun hm => ?_)
  ·simp -dsimp only[go_sem,hr,hm,bq (dcO hm) (by decide)]
  have n3:=of_decide_eq_false hm
  simp -dsimp only[go_sem,g0,hr,hm]
  clear hm
  refine aT (fun hm => ?_) (fun hm => ?_)
  ·simp -dsimp only[go_sem,hr,hm,bq (dcO hm) (by decide)]
  have n4:=of_decide_eq_false hm
  simp -dsimp only[go_sem,g0,hr,hm]
  clear hm
  refine aT (fun hm => ?_) (fun hm => ?_)
  ·simp -dsimp only[go_sem,hr,hm,bq (dcO hm) (by decide)]
  have n5:=of_decide_eq_false hm
  simp -dsimp only[go_sem,g0,hr,hm]
  clear hm
  refine aT (fun hm => ?_) (fun hm => ?_)
  ·simp -dsimp only[go_sem,hr,hm,bq (dcO hm) (by decide)]
  have n6:=of_decide_eq_false hm
  simp -dsimp only[go_sem,g0,hr,hm]
  clear hm
  refine aT (fun hm => ?_) (fun hm => ?_)
  ·simp -dsimp only[go_sem,hr,hm,bq (dcO hm) (by decide)]
  have n7:=of_decide_eq_false hm
  simp -dsimp only[go_sem,g0,hr,hm]
  clear hm
  refine aT (fun hm => ?_) (fun hm => ?_)
  ·simp -dsimp only[go_sem,hr,hm,bq (dcO hm) (by decide)]
  have n8:=of_decide_eq_false hm
  simp -dsimp only[go_sem,g0,hr,hm]
  clear hm
  refine aT (fun hm => ?_) (fun hm => ?_)
  ·simp -dsimp only[go_sem,hr,hm,bq (dcO hm) (by decide)]
  have n9:=of_decide_eq_false hm
  simp -dsimp only[go_sem,g0,hr,hm]
  clear hm
  refine aT (fun hm => ?_) (fun hm => ?_)
  ·simp -dsimp only[go_sem,hr,hm,bq (dcO hm) (by decide)]
  have n10:=of_decide_eq_false hm
  simp -dsimp only[go_sem,g0,hr,hm]
  clear hm
  refine aT (fun hm => ?_) (fun hm => ?_)
  ·simp -dsimp only[go_sem,hr,hm,bq (dcO hm) (by decide)]
  have n11:=of_decide_eq_false hm
  simp -dsimp only[go_sem,g0,hr,hm]
  clear hm
  refine aT (fun hm => ?_) (fun hm => ?_)
  ·simp -dsimp only[go_sem,hr,hm,bq (dcO hm) (by decide)]
  have n12:=of_decide_eq_false hm
  simp -dsimp only[go_sem,g0,hr,hm]
  clear hm
  refine aT (fun hm => ?_) (fun hm => ?_)
  ·simp -dsimp only[go_sem,hr,hm,bq (dcO hm) (by decide)]
  have n13:=of_decide_eq_false hm
  simp -dsimp only[go_sem,g0,hr,hm]
  clear hm
  refine aT (fun hm => ?_) (fun hm => ?_)
  ·simp -dsimp only[go_sem,hr,hm,bq (dcO hm) (by decide)]
  have n14:=of_decide_eq_false hm
  simp -dsimp only[go_sem,g0,hr,hm]
  clear hm
  refine aT (fun hm => ?_) (fun hm => ?_)
  ·simp -dsimp only[go_sem,hr,hm,bq (dcO hm) (by decide)]
  have n15:=of_decide_eq_false hm
  simp -dsimp only[go_sem,g0,hr,hm]
  clear hm
  refine aT (fun hm => ?_) (fun hm => ?_)
  ·simp -dsimp only[go_sem,hr,hm,bq (dcO hm) (by decide)]
  have n16:=of_decide_eq_false hm
  simp -dsimp only[go_sem,g0,hr,hm]
  clear hm
  refine aT (fun hm => ?_) (fun hm => ?_)
  ·simp -dsimp only[go_sem,hr,hm,bq (dcO hm) (by decide)]
  have n17:=of_decide_eq_false hm
  simp -dsimp only[go_sem,g0,hr,hm]
  clear hm
  refine aT (fun hm => ?_) (fun hm => ?_)
  ·simp -dsimp only[go_sem,hr,hm,bq (dcO hm) (by decide)]
  have n18:=of_decide_eq_false hm
  simp -dsimp only[go_sem,g0,hr,hm]
  clear hm
  refine aT (fun hm => ?_) (fun hm => ?_)
  ·simp -dsimp only[go_sem,hr,hm,bq (dcO hm) (by decide)]
  have n19:=of_decide_eq_false hm
  simp -dsimp only[go_sem,g0,hr,hm]
  clear hm
  refine aT (fun hm => ?_) (fun hm => ?_)
  ·simp -dsimp only[go_sem,hr,hm,bq (dcO hm) (by decide)]
  have n20:=of_decide_eq_false hm
  simp -dsimp only[go_sem,g0,hr,hm]
  clear hm
  refine aT (fun hm => ?_) (fun hm => ?_)
  ·simp -dsimp only[go_sem,hr,hm,bq (dcO hm) (by decide)]
  have n21:=of_decide_eq_false hm
  simp -dsimp only[go_sem,g0,hr,hm]
  clear hm
  refine aT (fun hm => ?_) (fun hm => ?_)
  ·simp -dsimp only[go_sem,hr,hm,bq (dcO hm) (by decide)]
  have n22:=of_decide_eq_false hm
  simp -dsimp only[go_sem,g0,hr,hm]
  clear hm
  refine aT (fun hm => ?_) (fun hm => ?_)
  ·simp -dsimp only[go_sem,hr,hm,bq (dcO hm) (by decide)]
  have n23:=of_decide_eq_false hm
  simp -dsimp only[go_sem,g0,hr,hm]
  clear hm
  refine aT (fun hm => ?_) (fun hm => ?_)
  ·simp -dsimp only[go_sem,hr,hm,bq (dcO hm) (by decide)]
  have n24:=of_decide_eq_false hm
  simp -dsimp only[go_sem,g0,hr,hm]
  clear hm
  refine aT (fun hm => ?_) (fun hm => ?_)
  ·simp -dsimp only[go_sem,hr,hm,bq (dcO hm) (by decide)]
  have n25:=of_decide_eq_false hm
  simp -dsimp only[go_sem,g0,hr,hm]
  clear hm
  refine aT (fun hm => ?_) (fun hm => ?_)
  ·simp -dsimp only[go_sem,hr,hm,bq (dcO hm) (by decide)]
  have n26:=of_decide_eq_false hm
  have hf:decide (bs s∈py)=false:=dcF (by
   unfold py
   simp only[mCo,List.not_mem_nil,or_false,not_or]
   exact ⟨n0,n1,n2,n3,n4,n5,n6,n7,n8,n9,n10,n11,n12,n13,n14,n15,n16,n17,n18,n19,n20,n21,n22,n23,n24,n25,n26⟩)
  simp -dsimp only[go_sem,hr,hf,hm]
 exact hs
theorem xA {w u R suf pre:List UInt8} (hw:(32:UInt8)∉w) (hu:(32:UInt8)∉u) (h:pre++(32::w++[32])++suf=32::(u++32::R)) :
 w=u\/∃pre',pre'++(32::w++[32])++suf=32::R:=by
 cases pre with
 | nil =>
  left
  simp only[List.nil_append,List.cons_append,List.cons.injEq,true_and,List.append_assoc] at h
  rcases List.append_eq_append_iff.1 h with ⟨x,h1,h2⟩|⟨x,h1,h2⟩
  ·cases x with
   | nil=>simpa using h1.symm
   | cons c x =>
    simp only[List.cons_append,List.cons.injEq] at h2
    exact absurd (by rw[h1,<-h2.1];simp) hu
  ·cases x with
   | nil=>simpa using h1
   | cons c x =>
    simp only[List.cons_append,List.cons.injEq] at h2
    exact absurd (by rw[h1,<-h2.1];simp) hw
 | cons c pre =>
  right
  simp only[List.cons_append,List.cons.injEq,List.append_assoc] at h
  obtain ⟨-,h⟩:=h
  rcases List.append_eq_append_iff.1 h with ⟨x,h1,h2⟩|⟨x,h1,h2⟩
  ·cases x with
   | nil=>exact ⟨[],by simpa using h2⟩
   | cons c x =>
    simp only[List.cons_append,List.cons.injEq] at h2
    exact absurd (by rw[h1,<-h2.1];simp) hu
  ·exact ⟨x,by rw[h2];simp⟩
theorem tv {w:List UInt8} (hw:(32:UInt8)∉w):∀(ws:List (List UInt8)) (pre suf:List UInt8),(∀u∈ws,(32:UInt8)∉u)->pre++(32::w++[32])++suf=32::ws.flatMap (· ++ [32])->w∈ws
 | [],pre,suf,_,h=>by
  have:=congrArg List.length h
  simp at this
  omega
 | u::ws,pre,suf,hu,h=>by
  replace h:pre++(32::w++[32])++suf=32::(u++32::ws.flatMap (· ++ [32])):=by rw[h,List.flatMap_cons];simp
  rcases xA hw (hu u (by simp)) h with rfl|⟨pre',h'⟩
  ·simp
  ·exact List.mem_cons_of_mem _ (tv hw ws pre' suf (fun u hm=>hu u (by simp[hm])) h')
theorem tw {w:List UInt8}:∀(ws:List (List UInt8)),w∈ws->(32::w++[32])<:+:32::ws.flatMap (· ++ [32])
 | u::ws,h=>by
  rcases mCo.1 h with rfl|h
  ·exact ⟨[],ws.flatMap (· ++ [32]),by simp⟩
  ·obtain ⟨p,q,e⟩:=tw ws h
   refine ⟨32::u++p,q,?_⟩
   rw[List.flatMap_cons]
   simp only[List.cons_append,List.append_assoc,List.cons.injEq,true_and] at e ⊢
   rw[e];simp
theorem uR {w:List UInt8} (hw:(32:UInt8)∉w) (ws:List (List UInt8)) (hu:∀u∈ws,(32:UInt8)∉u) :
 decide ((32::w++[32])<:+:32::ws.flatMap (· ++ [32]))=decide (w∈ws):=by
 rw[Bool.eq_iff_iff,decide_eq_true_eq,decide_eq_true_eq]
 refine ⟨fun ⟨p,q,e⟩=>tv hw ws p q hu e,tw ws⟩
def lX (l:List UInt8):Bool:=l.any fun b=>decide (b.toNat=32)
theorem qx {l:List UInt8} (h:lX l=false):(32:UInt8)∉l:=by
 intro c
 unfold lX at h
 rw[Bool.eq_false_iff] at h
 exact h (List.any_eq_true.2 ⟨32,c,rfl⟩)
theorem vW {t:TypeId} {x y:Operand} {s u:ByteArray} {h:Hp} (hl:s.data.toList.length+u.data.toList.length<=1000000000):be Tryz.prog h .add t x y (.string s) (.string u)=some (.string ⟨(s.data.toList++u.data.toList).toArray⟩):=Bh hl
theorem Dd {h:Hp} {K:ByteArray} {i j:Nat} (hij:i<=j) (hj:j<=(bs K).length):dn Tryz.prog h 9 (.string K) (some (.int .i64 (i:Int))) (some (.int .i64 (j:Int))) none=some (.string ⟨(((bs K).take j).drop i).toArray⟩):=by
 have e1:gG (.int .i64 (i:Int))=some i:=rfl
 have e2:gG (.int .i64 (j:Int))=some j:=rfl
 have h1:Nat.ble j (bs K).length=true:=by simpa using hj
 have h2:Nat.ble i j=true:=by simpa using hij
 simp only[dn,Tryz.underlying9,ca,e1,e2]
 simp only[h1,h2]
theorem zQ {w K:List UInt8} {i:Nat} (h:((K.take (i+w.length)).drop i)=w):w<:+:K :=
 ⟨K.take i,K.drop (i+w.length),by
  have e:K.take (i+w.length)=K.take i++w:=by
   have:=(List.take_append_drop i (K.take (i+w.length))).symm
   rw[h,List.take_take,Nat.min_eq_left (by omega)] at this
   exact this
  rw[<-e,List.take_append_drop]⟩
theorem zR {w K:List UInt8} (h:w<:+:K):∃i,i+w.length<=K.length/\((K.take (i+w.length)).drop i)=w:=by
 obtain ⟨p,q,rfl⟩:=h
 refine ⟨p.length,by simp,?_⟩
 rw[List.append_assoc,List.take_append,List.take_of_length_le (by omega),show p.length+w.length - p.length=w.length by omega,List.take_append_of_le_length (lRf _),List.take_length,List.drop_append_of_le_length (lRf _),List.drop_length,List.nil_append]
theorem zS (s K:ByteArray) (h0:bs s≠[]) (hb:lX (bs s)=false) (hs:(bs s).length<=60) (hK:(bs K).length<=1000) (h:Hp):Snd Tryz.prog 111 [.string s,.string K] h (.bool (decide ((32::(bs s++[32]))<:+:bs K))) h:=by
 obtain ⟨_,_,hs,rfl,rfl⟩:∃v h1,Snd Tryz.prog 111 [.string s,.string K] h v h1/\v=.bool (decide ((32::(bs s++[32]))<:+:bs K))/\h1=h:=by
  refine aL wf Tryz.func111 rfl rfl (n:=43) rfl (by kernel_rfl) rfl ?_
  intro a hn hg
  have hr:Tryz.f111.results.toList=[.tmp 4]:=rfl
  have g0:=hg 0
  have g1:=hg 1
  clear hg
  simp only[gC0,gC1] at g0 g1
  have ne:decide (bs s=[])=false:=dcF h0
  simp -dsimp only[go_sem,g0]
  refine au (n:=43) (by kernel_rfl) (fun m' a' h'=>∃i:Nat,i<=(bs s).length/\m'=(bs s).length - i/\h'=h/\a'.get 0=.string s/\a'.get 1=.string K/\a'.get 5=.int .i64 (i:Int)) ?_ (bs s).length _ _ (by simp -dsimp only[go_sem,hn]) ⟨0,lZr _,rfl,rfl,by simp -dsimp only[go_sem,g0],by simp -dsimp only[go_sem,g1],by simp -dsimp only[go_sem];rfl⟩
  rintro m' a' h' hn' ⟨i,hi,rfl,rfl,e0,e1,e5⟩
  by_cases hlt:i<(bs s).length
  ·have hi1:decide ((i:Int)<((bs s).length:Int))=true:=dcT (Int.ofNat_lt.2 hlt)
   have hk:decide (((bs s)[i].toNat:Int)=32)=false:=dcF (fun c=>by
    have:(32:UInt8)∈bs s:=by
     have e:(bs s)[i]=32:=UInt8.toNat_inj.1 (by have:(32:UInt8).toNat=32:=rfl;omega)
     exact e ▸ List.getElem_mem hlt
    exact qx hb this)
   simp -dsimp only[go_sem,e0,e1,e5,hi1,iD (gEl hlt),hk,ah hlt (by omega)]
   exact ⟨(bs s).length - (i+1),by omega,i+1,hlt,rfl,rfl⟩
  have hi0:decide ((i:Int)<((bs s).length:Int))=false:=dcF (by omega)
  simp -dsimp only[go_sem,e0,e1,e5,hi0]
  refine au (n:=43) (by kernel_rfl) (fun m' a' h''=>∃i:Nat,i<=(bs K).length/\m'=(bs K).length - i/\h''=h'/\(∀j,j<i->¬((bs K).take (j+((bs s).length+2))).drop j=32::(bs s++[32])) /\
   a'.get 0=.string s/\a'.get 1=.string K/\a'.get 6=.int .i64 (i:Int)) ?_ (bs K).length _ _ (by simp -dsimp only[go_sem,hn']) ⟨0,lZr _,rfl,rfl,fun j hj=>absurd hj (lNz _),by simp -dsimp only[go_sem,e0],by simp -dsimp only[go_sem,e1],by simp -dsimp only[go_sem];rfl⟩
  rintro m2 a2 h2 hn2 ⟨i,hi,rfl,rfl,hno,f0,f1,f6⟩
  have w1:IntKind.i64.wrap ((i:Int)+((bs s).length:Int))=((i+(bs s).length:Nat):Int):=by
   have:=dq (n:=i+(bs s).length) (by omega)
   rw[Int.natCast_add] at this ⊢
   exact this
  have w2:IntKind.i64.wrap (((i+(bs s).length:Nat):Int)+2)=((i+((bs s).length+2):Nat):Int):=by
   have:=dq (n:=i+((bs s).length+2)) (by omega)
   have e:((i+((bs s).length+2):Nat):Int)=((i+(bs s).length:Nat):Int)+2:=by omega
   rw[e] at this ⊢
   exact this
  have hlen:(32::(bs s++[32])).length=(bs s).length+2:=by simp
  by_cases hc:i+((bs s).length+2)<=(bs K).length
  ·have kc:decide (((i+((bs s).length+2):Nat):Int)<=((bs K).length:Int))=true:=dcT (by omega)
   have cat1:∀(t:TypeId) (x y:Operand),be Tryz.prog h2 .add t x y (.string ⟨#[32]⟩) (.string s)=some (.string ⟨(32::s.data.toList).toArray⟩):=fun t x y=>vW (by
    have:(⟨#[32]⟩:ByteArray).data.toList.length=1:=rfl
    simp only[bs] at *
    omega)
   have cat2:∀(t:TypeId) (x y:Operand),be Tryz.prog h2 .add t x y (.string ⟨(32::s.data.toList).toArray⟩) (.string ⟨#[32]⟩)=some (.string ⟨(32::(s.data.toList++[32])).toArray⟩):=fun t x y=>by
    rw[vW]
    ·rfl
    ·have:(⟨#[32]⟩:ByteArray).data.toList.length=1:=rfl
     simp only[bs,List.length_cons] at *
     omega
   simp -dsimp only[go_sem,f0,f1,f6,w1,w2,kc,ne,Bool.not_false,ai,Option.toList_some,Option.toList_none,List.cons_append,List.nil_append,List.append_nil,evList,Option.bind_some,Option.bind_none,Dd (Nat.le_add_right _ _) hc,cat1,cat2]
   by_cases hm:((bs K).take (i+((bs s).length+2))).drop i=32::(bs s++[32])
   ·skip
    have hm':decide (((bs K).take (i+((bs s).length+2))).drop i=32::(s.data.toList++[32]))=true:=dcT hm
    have hres:decide ((32::(bs s++[32]))<:+:bs K)=true:=dcT (zQ (i:=i) (by rw[hlen];exact hm))
    simp -dsimp only[go_sem,hm',hr,hres]
   ·have hm':decide (((bs K).take (i+((bs s).length+2))).drop i=32::(s.data.toList++[32]))=false:=dcF hm
    have w3:IntKind.i64.wrap ((i:Int)+1)=((i+1:Nat):Int):=by
     have:=dq (n:=i+1) (by omega)
     rw[Int.natCast_add] at this ⊢
     exact this
    simp -dsimp only[go_sem,hm',f6,w3]
    exact ⟨(bs K).length - (i+1),by omega,i+1,by omega,rfl,fun j hj=>by
     rcases Nat.lt_succ_iff_lt_or_eq.1 hj with q|q
     ·exact hno j q
     ·rw[q];exact hm,f0,f1,rfl⟩
  ·have kc:decide (((i+((bs s).length+2):Nat):Int)<=((bs K).length:Int))=false:=dcF (by omega)
   have hres:decide ((32::(bs s++[32]))<:+:bs K)=false:=dcF (fun c=>by
    obtain ⟨j,h1,h2⟩:=zR c
    rw[hlen] at h1 h2
    exact hno j (by omega) h2)
   simp -dsimp only[go_sem,f0,f1,f6,w1,w2,kc,hr,hres]
 exact hs
theorem tz {l:List UInt8} (h:l.all (fun b=>df b.toNat)=true):lX l=false:=by
 unfold lX
 rw[Bool.eq_false_iff]
 intro c
 obtain ⟨b,hb,hc⟩:=List.any_eq_true.1 c
 have h1:=List.all_eq_true.1 h b hb
 have h2:b.toNat=32:=dcO hc
 rw[h2] at h1
 cases h1
theorem zT (s:ByteArray) (h0:bs s≠[]) (hb:lX (bs s)=false) (hs:(bs s).length<=60) (h:Hp):Snd Tryz.prog 97 [.string s] h (.bool (decide (bs s∈py))) h:=by
 obtain ⟨_,_,hs,rfl,rfl⟩:∃v h1,Snd Tryz.prog 97 [.string s] h v h1/\v=.bool (decide (bs s∈py))/\h1=h:=by
  refine aL wf Tryz.func97 rfl rfl (n:=5) rfl (by kernel_rfl) rfl ?_
  intro a hn hg
  have hr:Tryz.f97.results.toList=[.tmp 2]:=rfl
  have g0:=hg 0
  clear hg
  simp only[gC0] at g0
  simp -dsimp only[go_sem,g0]
  refine ⟨_,_,zS s _ h0 hb hs (by decide +kernel) h,?_⟩
  simp -dsimp only[go_sem,hr]
  rw[<-uR (qx hb) py (by decide +kernel)]
  exact congrArg Value.bool (by congr 1)
 exact hs
def Cu (l:List UInt8):Bool:=match l with
 | b::_=>ea 97 122 b.toNat
 | []=>false
def gg (s:ByteArray):Bool := !decide (bs s=[])&&(decide ((bs s).length<=60)&&(Cu (bs s)&&((bs s).all (fun b=>df b.toNat) && !decide (bs s∈py))))
theorem vY {l:List UInt8} (h:¬l=[]):∃b,l[0]? = some b/\Cu l=ea 97 122 b.toNat:=by
 cases l with
 | nil=>exact absurd rfl h
 | cons b l=>exact ⟨b,rfl,rfl⟩
theorem BR (s:ByteArray) (hs:jb s) (h:Hp):Snd Tryz.prog 39 [.string s] h (.bool (gg s)) h:=by
 obtain ⟨_,_,hs,rfl,rfl⟩:∃v h1,Snd Tryz.prog 39 [.string s] h v h1/\v=.bool (gg s)/\h1=h:=by
  refine aL wf Tryz.func39 rfl rfl (n:=24) rfl (by kernel_rfl) rfl ?_
  intro a hn hg
  have hr:Tryz.f39.results.toList=[.tmp 2]:=rfl
  have g0:=hg 0
  clear hg
  simp only[gC0] at g0
  have e60:decide (((bs s).length:Int)<=60)=decide ((bs s).length<=60):=by rw[Bool.eq_iff_iff];simp;omega
  unfold gg
  by_cases c0:bs s=[]
  ·simp -dsimp only[go_sem,g0,hr,ai,c0,decide_true,Bool.not_true,Bool.false_and]
  obtain ⟨b,hb,hh⟩:=vY c0
  have k0:decide (bs s=[])=false:=dcF c0
  cases c1:decide ((bs s).length<=60) with
  | false=>simp -dsimp only[go_sem,g0,hr,ai,k0,e60,c1,Bool.not_false,Bool.true_and,Bool.false_and]
  | true =>
    simp -dsimp only[go_sem,g0,ai,k0,e60,c1,Bool.not_false,Bool.true_and,DV hb]
    refine ⟨_,_,vV b h,?_⟩
    rw[hh]
    cases c2:ea 97 122 b.toNat with
    | false=>simp -dsimp only[go_sem,g0,hr,ai,k0,Bool.not_false,Bool.true_and,Bool.false_and]
    | true =>
      simp -dsimp only[go_sem,g0,ai,Bool.true_and]
      refine ⟨_,_,BP s hs h,?_⟩
      cases c3:(bs s).all (fun b=>df b.toNat) with
      | false=>simp -dsimp only[go_sem,g0,hr,ai,k0,Bool.not_false,Bool.true_and,Bool.false_and]
      | true =>
        simp -dsimp only[go_sem,g0,ai,Bool.true_and]
        refine ⟨_,_,BQ s h,?_⟩
        simp -dsimp only[go_sem,g0,hr,ai,k0,Bool.not_false,Bool.true_and]
 exact hs
theorem tA (s:ByteArray) (hs:jb s) (h:Hp):Snd Tryz.prog 78 [.string s] h (.bool (gg s)) h:=by
 obtain ⟨_,_,hs,rfl,rfl⟩:∃v h1,Snd Tryz.prog 78 [.string s] h v h1/\v=.bool (gg s)/\h1=h:=by
  refine aL wf Tryz.func78 rfl rfl (n:=15) rfl (by kernel_rfl) rfl ?_
  intro a hn hg
  have hr:Tryz.f78.results.toList=[.tmp 2]:=rfl
  have g0:=hg 0
  clear hg
  simp only[gC0] at g0
  unfold gg
  simp -dsimp only[go_sem,g0]
  refine ⟨_,_,xz s hs h,?_⟩
  cases c3:(bs s).all (fun b=>df b.toNat) with
  | false=>simp -dsimp only[go_sem,g0,hr,ai,Bool.false_and,Bool.and_false]
  | true =>
    by_cases c0:bs s=[]
    ·simp -dsimp only[go_sem,g0,hr,ai,c0,decide_true,Bool.not_true,Bool.false_and,Bool.true_and]
    obtain ⟨b,hb,hh⟩:=vY c0
    have k0:decide (bs s=[])=false:=dcF c0
    cases c1:decide ((bs s).length<=60) with
    | false=>simp -dsimp only[go_sem,g0,hr,ai,k0,Bool.not_false,Bool.true_and,Bool.false_and]
    | true =>
      simp -dsimp only[go_sem,g0,ai,k0,Bool.not_false,Bool.true_and,DV hb]
      refine ⟨_,_,tu b h,?_⟩
      rw[hh]
      cases c2:ea 97 122 b.toNat with
      | false=>simp -dsimp only[go_sem,g0,hr,ai,k0,Bool.not_false,Bool.true_and,Bool.false_and]
      | true =>
        simp -dsimp only[go_sem,g0,ai,Bool.true_and]
        refine ⟨_,_,zT s c0 (tz c3) (dcO c1) h,?_⟩
        simp -dsimp only[go_sem,g0,hr,ai,k0,Bool.not_false,Bool.true_and]
 exact hs
def okC (n:Nat):Bool := !(!decide (n=10)&&(!decide (32<=n) || !decide (n<=126)))
def zU (l:List UInt8):Bool:=l.all (fun b=>okC b.toNat)&&decide (l.length<=60)
def gS (s:ByteArray):Bool:=zU (bs s)
theorem xB (s:ByteArray) (hs:jb s) (h:Hp):Snd Tryz.prog 92 [.string s,.int .i64 60] h (.bool (gS s)) h:=by
 obtain ⟨_,_,hs,rfl,rfl⟩:∃v h1,Snd Tryz.prog 92 [.string s,.int .i64 60] h v h1/\v=.bool (gS s)/\h1=h:=by
  refine aL wf Tryz.func92 rfl rfl (n:=32) rfl (by kernel_rfl) rfl ?_
  intro a hn hg
  have hr:Tryz.f92.results.toList=[.tmp 4]:=rfl
  have g0:=hg 0
  have g1:=hg 1
  clear hg
  simp only[gC0,gC1] at g0 g1
  unfold gS zU
  simp -dsimp only[go_sem,g0,g1]
  refine au (n:=32) (by kernel_rfl) (fun m' a' h'=>∃i:Nat,i<=(bs s).length/\m'=(bs s).length - i/\h'=h/\((bs s).take i).all (fun b=>okC b.toNat)=true /\
   a'.get 0=.string s/\a'.get 1=.int .i64 60/\a'.get 7=.int .i64 ((bs s).length:Int)/\a'.get 8=.int .i64 (i:Int)) ?_ (bs s).length _ _ (by simp -dsimp only[go_sem,hn]) ⟨0,lZr _,rfl,rfl,rfl,by simp -dsimp only[go_sem,g0],by simp -dsimp only[go_sem,g1],by simp -dsimp only[go_sem],by simp -dsimp only[go_sem];rfl⟩
  rintro m' a' h' hn' ⟨i,hi,rfl,rfl,hst,e0,e1,e7,e8⟩
  by_cases hlt:i<(bs s).length
  rotate_left
  ·have hi0:decide ((i:Int)<((bs s).length:Int))=false:=dcF (by omega)
   rw[List.take_of_length_le (by omega)] at hst
   have e60:decide (((bs s).length:Int)<=60)=decide ((bs s).length<=60):=by rw[Bool.eq_iff_iff];simp;omega
   simp -dsimp only[go_sem,e0,e1,e7,e8,hi0,hr,hst,e60,Bool.true_and]
  have hi1:decide ((i:Int)<((bs s).length:Int))=true:=dcT (Int.ofNat_lt.2 hlt)
  have x1:decide (((bs s)[i].toNat:Int)=10)=decide ((bs s)[i].toNat=10):=by rw[Bool.eq_iff_iff];simp;omega
  have x2:decide (((bs s)[i].toNat:Int)<32) = !decide (32<=(bs s)[i].toNat):=by rw[Bool.eq_iff_iff];simp;omega
  have x3:decide ((126:Int)<((bs s)[i].toNat:Int)) = !decide ((bs s)[i].toNat<=126):=by rw[Bool.eq_iff_iff];simp;omega
  cases hm:okC (bs s)[i].toNat with
  | false =>
    have hm2:=hm
    unfold okC at hm2
    have y:=nj (p:=fun b=>okC b.toNat) hlt hm
    cases k1:decide ((bs s)[i].toNat=10) with
    | true=>rw[k1] at hm2;cases hm2
    | false =>
      cases k2:decide (32<=(bs s)[i].toNat) with
      | false=>simp -dsimp only[go_sem,e0,e1,e7,e8,hi1,ai,iD (gEl hlt),x1,x2,x3,k1,k2,Bool.not_false,Bool.not_true,hr,y,Bool.false_and]
      | true =>
        cases k3:decide ((bs s)[i].toNat<=126) with
        | true=>rw[k1,k2,k3] at hm2;cases hm2
        | false=>simp -dsimp only[go_sem,e0,e1,e7,e8,hi1,ai,iD (gEl hlt),x1,x2,x3,k1,k2,k3,Bool.not_false,Bool.not_true,hr,y,Bool.false_and]
  | true =>
    have hm2:=hm
    unfold okC at hm2
    cases k1:decide ((bs s)[i].toNat=10) with
    | true =>
      simp -dsimp only[go_sem,e0,e1,e7,e8,hi1,ai,iD (gEl hlt),x1,x2,x3,k1,Bool.not_false,Bool.not_true,ah hlt (fM hs)]
      exact ⟨(bs s).length - (i+1),by omega,i+1,hlt,rfl,by rw[gR hlt,hst,hm];rfl,rfl⟩
    | false =>
      cases k2:decide (32<=(bs s)[i].toNat) with
      | false=>rw[k1,k2] at hm2;cases hm2
      | true =>
        cases k3:decide ((bs s)[i].toNat<=126) with
        | false=>rw[k1,k2,k3] at hm2;cases hm2
        | true =>
          simp -dsimp only[go_sem,e0,e1,e7,e8,hi1,ai,iD (gEl hlt),x1,x2,x3,k1,k2,k3,Bool.not_false,Bool.not_true,ah hlt (fM hs)]
          exact ⟨(bs s).length - (i+1),by omega,i+1,hlt,rfl,by rw[gR hlt,hst,hm];rfl,rfl⟩
 exact hs
theorem zV (s:ByteArray) (hs:jb s) (h:Hp):Snd Tryz.prog 122 [.string s,.int .i64 60] h (.bool (gS s)) h:=by
 obtain ⟨_,_,hs,rfl,rfl⟩:∃v h1,Snd Tryz.prog 122 [.string s,.int .i64 60] h v h1/\v=.bool (gS s)/\h1=h:=by
  refine aL wf Tryz.func122 rfl rfl (n:=32) rfl (by kernel_rfl) rfl ?_
  intro a hn hg
  have hr:Tryz.f122.results.toList=[.tmp 4]:=rfl
  have g0:=hg 0
  have g1:=hg 1
  clear hg
  simp only[gC0,gC1] at g0 g1
  unfold gS zU
  simp -dsimp only[go_sem,g0,g1]
  refine au (n:=32) (by kernel_rfl) (fun m' a' h'=>∃i:Nat,i<=(bs s).length/\m'=(bs s).length - i/\h'=h/\((bs s).take i).all (fun b=>okC b.toNat)=true /\
   a'.get 0=.string s/\a'.get 1=.int .i64 60/\a'.get 5=.int .i64 (i:Int)) ?_ (bs s).length _ _ (by simp -dsimp only[go_sem,hn]) ⟨0,lZr _,rfl,rfl,rfl,by simp -dsimp only[go_sem,g0],by simp -dsimp only[go_sem,g1],by simp -dsimp only[go_sem];rfl⟩
  rintro m' a' h' hn' ⟨i,hi,rfl,rfl,hst,e0,e1,e5⟩
  by_cases hlt:i<(bs s).length
  rotate_left
  ·have hi0:decide ((i:Int)<((bs s).length:Int))=false:=dcF (by omega)
   rw[List.take_of_length_le (by omega)] at hst
   have e60:decide (((bs s).length:Int)<=60)=decide ((bs s).length<=60):=by rw[Bool.eq_iff_iff];simp;omega
   simp -dsimp only[go_sem,e0,e1,e5,hi0,hr,hst,e60,Bool.true_and]
  have hi1:decide ((i:Int)<((bs s).length:Int))=true:=dcT (Int.ofNat_lt.2 hlt)
  have x1:decide (((bs s)[i].toNat:Int)=10)=decide ((bs s)[i].toNat=10):=by rw[Bool.eq_iff_iff];simp;omega
  have x2:decide (((bs s)[i].toNat:Int)<32) = !decide (32<=(bs s)[i].toNat):=by rw[Bool.eq_iff_iff];simp;omega
  have x3:decide ((126:Int)<((bs s)[i].toNat:Int)) = !decide ((bs s)[i].toNat<=126):=by rw[Bool.eq_iff_iff];simp;omega
  cases hm:okC (bs s)[i].toNat with
  | false =>
    have hm2:=hm
    unfold okC at hm2
    have y:=nj (p:=fun b=>okC b.toNat) hlt hm
    cases k1:decide ((bs s)[i].toNat=10) with
    | true=>rw[k1] at hm2;cases hm2
    | false =>
      cases k2:decide (32<=(bs s)[i].toNat) with
      | false=>simp -dsimp only[go_sem,e0,e1,e5,hi1,ai,iD (gEl hlt),x1,x2,x3,k1,k2,Bool.not_false,Bool.not_true,hr,y,Bool.false_and]
      | true =>
        cases k3:decide ((bs s)[i].toNat<=126) with
        | true=>rw[k1,k2,k3] at hm2;cases hm2
        | false=>simp -dsimp only[go_sem,e0,e1,e5,hi1,ai,iD (gEl hlt),x1,x2,x3,k1,k2,k3,Bool.not_false,Bool.not_true,hr,y,Bool.false_and]
  | true =>
    have hm2:=hm
    unfold okC at hm2
    cases k1:decide ((bs s)[i].toNat=10) with
    | true =>
      simp -dsimp only[go_sem,e0,e1,e5,hi1,ai,iD (gEl hlt),x1,x2,x3,k1,Bool.not_false,Bool.not_true,ah hlt (fM hs)]
      exact ⟨(bs s).length - (i+1),by omega,i+1,hlt,rfl,by rw[gR hlt,hst,hm];rfl,rfl⟩
    | false =>
      cases k2:decide (32<=(bs s)[i].toNat) with
      | false=>rw[k1,k2] at hm2;cases hm2
      | true =>
        cases k3:decide ((bs s)[i].toNat<=126) with
        | false=>rw[k1,k2,k3] at hm2;cases hm2
        | true =>
          simp -dsimp only[go_sem,e0,e1,e5,hi1,ai,iD (gEl hlt),x1,x2,x3,k1,k2,k3,Bool.not_false,Bool.not_true,ah hlt (fM hs)]
          exact ⟨(bs s).length - (i+1),by omega,i+1,hlt,rfl,by rw[gR hlt,hst,hm];rfl,rfl⟩
 exact hs
@[go_sem] theorem EJ : bE Tryz.prog 148 = some (.agg #[.string ⟨#[]⟩, .string ⟨#[]⟩, .int .i64 0]) := by kernel_rfl
theorem DW:aA Tryz.prog 148=some 3:=by kernel_rfl
@[go_sem] theorem Fq (h : Hp) (a : Addr) (v : Value) : bc Tryz.prog h 148 a v = match Nat.beq v.cells.toList.length 3 with | true => h.stores a v.cells.toList | false => none := bH DW h a v
@[go_sem] theorem En (b o : Nat) : aI Tryz.prog 148 (.pointer (some ⟨b, o, none⟩)) 0 = some (.pointer (some ⟨b, o, none⟩)) := aM 9 0 Tryz.underlying148 rfl sz9 b o
@[go_sem] theorem Eo (b o : Nat) : aI Tryz.prog 148 (.pointer (some ⟨b, o, none⟩)) 1 = some (.pointer (some ⟨b, o + 1, none⟩)) := aM 9 1 Tryz.underlying148 rfl sz9 b o
@[go_sem] theorem Fs (ps : List (Nat × Value)) : d3 Tryz.prog 148 ps = match cM (fun i => ([(0, 1), (1, 1), (2, 1)] : List (Nat × Nat))[i]?) [.string ⟨#[]⟩, .string ⟨#[]⟩, .int .i64 0] ps with | some c => some (.agg c.toArray) | none => none := fj EJ Tryz.underlying148 (by kernel_rfl) (fun i => by
 match i with
 | 0=>exact by simp only[bg,gC0,gC1,sz9]
 | 1=>exact by simp only[bg,gC0,gC1,sz9]
 | 2=>exact by simp only[bg,gC0,gC1,sz3]
 | _+3=>rfl) ps
theorem uS (s:ByteArray) (hs:jb s) (h:Hp) (hb:h.base<=h.next):∃v h1,Snd Tryz.prog 77 [.agg #[.string ⟨#[97,116,111,109]⟩,.string s,.int .i64 0]] h v h1/\v=.bool (gS s):=by
 refine aL wf Tryz.func77 rfl rfl (n:=85) rfl (by kernel_rfl) rfl ?_
 intro a hn hg
 have hr:Tryz.f77.results.toList=[.tmp 2]:=rfl
 have g0:=hg 0
 clear hg
 simp only[gC0] at g0
 have hP:=an hb 148 [.string ⟨#[97,116,111,109]⟩,.string s,.int .i64 0]
 simp -dsimp only[go_sem,g0,aa hP,show decide (([97,116,111,109]:List UInt8)=[118,97,114])=false from rfl,show decide (([97,116,111,109]:List UInt8)=[97,116,111,109])=true from rfl,show decide (([97,116,111,109]:List UInt8)=[116,101,120,116])=false from rfl,decide_true]
 refine ⟨_,_,xB s hs _,?_⟩
 simp -dsimp only[go_sem,hr]
theorem uT (s:ByteArray) (hs:jb s) (h:Hp) (hb:h.base<=h.next):∃v h1,Snd Tryz.prog 112 [.agg #[.string ⟨#[97,116,111,109]⟩,.string s,.int .i64 0]] h v h1/\v=.bool (gS s):=by
 refine aL wf Tryz.func112 rfl rfl (n:=46) rfl (by kernel_rfl) rfl ?_
 intro a hn hg
 have hr:Tryz.f112.results.toList=[.tmp 2]:=rfl
 have g0:=hg 0
 clear hg
 simp only[gC0] at g0
 have hP:=an hb 148 [.string ⟨#[97,116,111,109]⟩,.string s,.int .i64 0]
 simp -dsimp only[go_sem,g0,aa hP,show decide (([97,116,111,109]:List UInt8)=[118,97,114])=false from rfl,show decide (([97,116,111,109]:List UInt8)=[97,116,111,109])=true from rfl,show decide (([97,116,111,109]:List UInt8)=[116,101,120,116])=false from rfl,decide_true]
 refine ⟨_,_,zV s hs _,?_⟩
 simp -dsimp only[go_sem,hr]
theorem De (s:ByteArray) (hs:jb s) (h:Hp):Snd Tryz.prog 59 [.string s] h (.bool (gS s)) h:=by
 refine qF Tryz.func59 rfl rfl (fun _ _=>np) (fun _=>.cons (.string _) .nil) (fun w => ?_) h
 suffices k:∃v h1,Snd Tryz.prog 59 [.string s] (gT w) v h1/\v=.bool (gS s) by
  obtain ⟨_,h1,k1,rfl⟩:=k
  exact ⟨h1,k1⟩
 refine aL wf Tryz.func59 rfl rfl (n:=6) rfl (by kernel_rfl) rfl ?_
 intro a hn hg
 have hr:Tryz.f59.results.toList=[.tmp 2]:=rfl
 have g0:=hg 0
 clear hg
 simp only[gC0] at g0
 obtain ⟨_,h1,hs1,rfl⟩:=uS s hs (gT w) (lRf _)
 simp -dsimp only[go_sem,g0]
 refine ⟨_,h1,hs1,?_⟩
 simp -dsimp only[go_sem,hr]
theorem uU (s:ByteArray) (hs:jb s) (h:Hp):Snd Tryz.prog 98 [.string s] h (.bool (gS s)) h:=by
 refine qF Tryz.func98 rfl rfl (fun _ _=>np) (fun _=>.cons (.string _) .nil) (fun w => ?_) h
 suffices k:∃v h1,Snd Tryz.prog 98 [.string s] (gT w) v h1/\v=.bool (gS s) by
  obtain ⟨_,h1,k1,rfl⟩:=k
  exact ⟨h1,k1⟩
 refine aL wf Tryz.func98 rfl rfl (n:=6) rfl (by kernel_rfl) rfl ?_
 intro a hn hg
 have hr:Tryz.f98.results.toList=[.tmp 2]:=rfl
 have g0:=hg 0
 clear hg
 simp only[gC0] at g0
 obtain ⟨_,h1,hs1,rfl⟩:=uT s hs (gT w) (lRf _)
 simp -dsimp only[go_sem,g0]
 refine ⟨_,h1,hs1,?_⟩
 simp -dsimp only[go_sem,hr]
end Go.Ev.Z24
end
section

end
section
namespace Go.Ev.Z24
open Go.RowKit Go.Proofs
section
variable {r:Ro}
mutual
def rK:ad->Prop
 | ⟨d,t,l⟩=>t.size<=4611686018427387904/\qy l
def qy:List ad->Prop
 | []=>True
 | x::l=>rK x/\qy l
end
theorem lY:∀{l:List ad},qy l->∀(i:Nat) (p:ad),l[i]? = some p->rK p
 | x::l,h,0,p,hp=>by simp at hp;subst hp;exact h.1
 | x::l,h,i+1,p,hp=>lY h.2 i p (by simpa using hp)
def aU (nm:List ByteArray) (d t:ByteArray) (n:Nat):Bool :=
 if d.data.toList=[105,115] then decide (n=0)&&gS t
 else if d.data.toList=[114,117,108,101] then decide (n=0)&&decide (ae nm t<nm.length)
 else if t.data.toList≠[] then false
 else if d.data.toList=[97,110,121]\/d.data.toList=[110,111,116,104,105,110,103] then decide (n=0)
 else if d.data.toList=[115,101,113]\/d.data.toList=[111,114] then decide (1<=n)
 else if d.data.toList=[109,97,110,121]\/d.data.toList=[111,112,116]\/d.data.toList=[110,111,116] then decide (n=1)
 else false
mutual
def ay (nm:List ByteArray):ad->Bool
 | ⟨d,t,l⟩=>b6 nm l&&aU nm d t l.length
def b6 (nm:List ByteArray):List ad->Bool
 | []=>true
 | x::l=>ay nm x&&b6 nm l
end
theorem cZ (n:Nat):decide ((n:Int)=0)=decide (n=0):=by rw[decide_eq_decide];omega
theorem fG (n:Nat):decide ((n:Int)=1)=decide (n=1):=by rw[decide_eq_decide];omega
theorem vZ (n:Nat):decide (1<=(n:Int))=decide (1<=n):=by rw[decide_eq_decide];omega
def zW (r:Ro) (m:Nat) (nm:List ByteArray) (p:ad):Prop:=∀(h:Hp) (cs:List Value),h.rom=r->h.base<=h.next->MapAt h m nm->RoPart r p cs->rK p ->
 ∃v h1,Snd Tryz.prog 40 [.agg cs.toArray,.map (some m)] h v h1/\v=.bool (ay nm p)/\Ext h h1
theorem BT {m:Nat} {nm:List ByteArray}:∀(n:Nat) (p:ad),SizeOf.sizeOf p<n->zW r m nm p:=by
 intro n
 induction n with
 | zero=>exact fun p hp=>absurd hp (lNz _)
 | succ n ihn =>
 rintro ⟨d,t,l⟩ hn h cs hrom hb hM hp hft
 have ih:∀(i:Nat) (p:ad),l[i]? = some p->zW r m nm p:=fun i p hp=>ihn p (by
  have:=List.sizeOf_lt_of_mem (mOg hp)
  simp only[ad.mk.sizeOf_spec] at hn
  omega)
 have hnk:∀(i:Nat) (p:ad),l[i]? = some p->rK p:=lY hft.2
 cases hp with
 | mk _ _ _ Av c b o css hc hlb hA hat hk hs =>
 refine aL wf Tryz.func40 rfl rfl (n:=71) rfl (by kernel_rfl) rfl ?_
 intro a hn hg
 have hr:Tryz.f40.results.toList=[.tmp 4]:=rfl
 have g0:=hg 0
 have g1:=hg 1
 clear hg
 simp only[gC0,gC1] at g0 g1
 have hP:=an hb 48 [.string d,.string t,.slice Av l.length c]
 have hx0:=Ext.new h (ak.cells ⟨[.string d,.string t,.slice Av l.length c],48,0,0,false⟩)
 have hb1:=Nat.le_succ_of_le (m:=h.next) hb
 have hM0:=hM.ext hx0
 have e:ay nm ⟨d,t,l⟩=(b6 nm l&&aU nm d t l.length):=by rw[ay]
 simp -dsimp only[go_sem,g0,g1,aa hP]
 refine au (n:=71) (by kernel_rfl) (fun m' a' h'=>∃i:Nat,i<=l.length/\m'=l.length - i/\Ext (h.newH (ak.cells ⟨[.string d,.string t,.slice Av l.length c],48,0,0,false⟩)) h'/\b6 nm (l.drop i)=b6 nm l /\
  a'.get 1=.map (some m)/\a'.get 2=.pointer (some ⟨h.next,0,none⟩)/\a'.get 5=.int .i64 l.length/\a'.get 14=.slice Av l.length c/\a'.get 15=.int .i64 l.length/\a'.get 16=.int .i64 i) ?_ l.length _ _ (by simp -dsimp only[go_sem,hn]) ⟨0,lZr _,rfl,Ext.refl _,rfl,by simp -dsimp only[go_sem,g1];rfl⟩
 rintro m' a' h' hn' ⟨i,hi,rfl,hx,hst,e1,e2,e5,e14,e15,e16⟩
 have hrom':h'.rom=r:=hx.rom.trans hrom
 have hb':h'.base<=h'.next:=by rw[hx.base];exact lTr hb1 hx.next
 by_cases hlt:i<l.length
 ·have hpi:l[i]? = some l[i]:=gEl hlt
  have hi1:decide ((i:Int)<(l.length:Int))=true:=dcT (Int.ofNat_lt.2 hlt)
  obtain ⟨Av1,c1',hcs⟩:=(hk i _ hpi).shape
  have hat':=hat i _ hpi
  have hkid:=hk i _ hpi
  rw[hcs] at hat' hkid
  have hAv:=hA (aO hlt)
  subst hAv
  obtain ⟨vS,vO,vX,vB,vR⟩:=gE hb' (e:=48) (c0:=[.string ⟨#[]⟩,.string ⟨#[]⟩,.slice none 0 0]) (c1:=[.string l[i].d,.string l[i].t,.slice Av1 l[i].l.length c1']) rfl rfl (by simp)
  simp -dsimp only[go_sem,e1,e2,e5,e14,e15,e16,hi1,eR hlt,az (n:=3) hrom' hat' rfl,vS,af vO]
  obtain ⟨_,h2,hs,rfl,hx2⟩:=ih i _ hpi _ _ (vR.trans hrom') vB ((hM0.ext hx).ext vX) hkid (hnk i _ hpi)
  refine ⟨_,h2,hs,?_⟩
  rw[List.drop_eq_getElem_cons hlt,b6] at hst
  have hx3:=hx.trans (vX.trans hx2)
  simp -dsimp only[go_sem]
  refine aT (fun hm => ?_) (fun hm => ?_)
  ·simp -dsimp only[go_sem,hr]
   refine ⟨?_,hx0.trans hx3⟩
   have hm':ay nm l[i]=false:=by simpa using hm
   rw[e,<-hst,hm']
   rfl
  ·simp -dsimp only[go_sem,e15,e16,ah hlt hlb]
   have hm':ay nm l[i]=true:=by simpa using hm
   rw[hm',Bool.true_and] at hst
   exact ⟨l.length - (i+1),by omega,i+1,hlt,rfl,hx3,hst,e1,e2,e5,e14,rfl⟩
 ·have hi0:decide ((i:Int)<(l.length:Int))=false:=dcF (by omega)
  rw[List.drop_eq_nil_of_le (by omega),b6] at hst
  rw[<-hst,Bool.true_and] at e
  have hP':=aj hx hP
  have hM':=hM0.ext hx
  simp -dsimp only[go_sem,e2,e15,e16,hi0,aa hP']
  have hx9:=hx0.trans hx
  by_cases c1:d.data.toList=[105,115]
  ·by_cases cn:l.length=0
   ·have kn:decide ((l.length:Int)=0)=true:=by rw[cZ];exact dcT cn
    simp -dsimp only[go_sem,dcT c1,e2,e5,kn,aa hP',hr]
    refine ⟨_,_,De t hft.1 _,?_⟩
    exact ⟨by rw[e];simp[aU,c1,cn],hx9⟩
   ·have kn:decide ((l.length:Int)=0)=false:=by rw[cZ];exact dcF cn
    simp -dsimp only[go_sem,ai,dcT c1,e2,e5,kn,aa hP',hr]
    exact ⟨by rw[e];simp[aU,c1,cn],hx9⟩
  by_cases c2:d.data.toList=[114,117,108,101]
  ·by_cases cn:l.length=0
   ·have kn:decide ((l.length:Int)=0)=true:=by rw[cZ];exact dcT cn
    by_cases ci:ae nm t<nm.length
    ·simp -dsimp only[go_sem,ai,dcF c1,dcT c2,e1,e2,e5,kn,aa hP',hM'.hit ci,hr]
     exact ⟨by rw[e];simp[aU,c2,cn,ci],hx9⟩
    ·simp -dsimp only[go_sem,ai,dcF c1,dcT c2,e1,e2,e5,kn,aa hP',hM'.miss ci,hr]
     exact ⟨by rw[e];simp[aU,c2,cn,ci],hx9⟩
   ·have kn:decide ((l.length:Int)=0)=false:=by rw[cZ];exact dcF cn
    by_cases ci:ae nm t<nm.length
    ·simp -dsimp only[go_sem,ai,dcF c1,dcT c2,e1,e2,e5,kn,aa hP',hM'.hit ci,hr]
     exact ⟨by rw[e];simp[aU,c2,cn,ci],hx9⟩
    ·simp -dsimp only[go_sem,ai,dcF c1,dcT c2,e1,e2,e5,kn,aa hP',hM'.miss ci,hr]
     exact ⟨by rw[e];simp[aU,c2,cn,ci],hx9⟩
  by_cases c3:t.data.toList=[]
  rotate_left
  ·simp -dsimp only[go_sem,dcF c1,dcF c2,dcF c3,e2,e5,aa hP',hr]
   exact ⟨by rw[e];simp[aU,c1,c2,c3],hx9⟩
  by_cases c4:d.data.toList=[97,110,121]
  ·simp -dsimp only[go_sem,dcF c1,dcF c2,dcT c3,dcT c4,e2,e5,aa hP',cZ,hr]
   exact ⟨by rw[e];simp[aU,c3,c4],hx9⟩
  by_cases c5:d.data.toList=[110,111,116,104,105,110,103]
  ·simp -dsimp only[go_sem,dcF c1,dcF c2,dcT c3,dcF c4,dcT c5,e2,e5,aa hP',cZ,hr]
   exact ⟨by rw[e];simp[aU,c3,c5],hx9⟩
  by_cases c6:d.data.toList=[115,101,113]
  ·simp -dsimp only[go_sem,dcF c1,dcF c2,dcT c3,dcF c4,dcF c5,dcT c6,e2,e5,aa hP',vZ,hr]
   exact ⟨by rw[e];simp[aU,c3,c6],hx9⟩
  by_cases c7:d.data.toList=[111,114]
  ·simp -dsimp only[go_sem,dcF c1,dcF c2,dcT c3,dcF c4,dcF c5,dcF c6,dcT c7,e2,e5,aa hP',vZ,hr]
   exact ⟨by rw[e];simp[aU,c3,c7],hx9⟩
  by_cases c8:d.data.toList=[109,97,110,121]
  ·simp -dsimp only[go_sem,dcF c1,dcF c2,dcT c3,dcF c4,dcF c5,dcF c6,dcF c7,dcT c8,e2,e5,aa hP',fG,hr]
   exact ⟨by rw[e];simp[aU,c3,c8],hx9⟩
  by_cases c9:d.data.toList=[111,112,116]
  ·simp -dsimp only[go_sem,dcF c1,dcF c2,dcT c3,dcF c4,dcF c5,dcF c6,dcF c7,dcF c8,dcT c9,e2,e5,aa hP',fG,hr]
   exact ⟨by rw[e];simp[aU,c3,c9],hx9⟩
  by_cases c10:d.data.toList=[110,111,116]
  ·simp -dsimp only[go_sem,dcF c1,dcF c2,dcT c3,dcF c4,dcF c5,dcF c6,dcF c7,dcF c8,dcF c9,dcT c10,e2,e5,aa hP',fG,hr]
   exact ⟨by rw[e];simp[aU,c3,c10],hx9⟩
  simp -dsimp only[go_sem,dcF c1,dcF c2,dcT c3,dcF c4,dcF c5,dcF c6,dcF c7,dcF c8,dcF c9,dcF c10,e2,e5,aa hP',hr]
  exact ⟨by rw[e];simp[aU,c1,c2,c3,c4,c5,c6,c7,c8,c9,c10],hx9⟩
end
section
variable {r:Ro}
def dv (nm:List ByteArray):List ar->Bool
 | []=>true
 | x::l=>(gg x.name&&ay nm x.body)&&dv nm l
def co (l:List ar):Bool:=fw [] (nms l) && !decide (l.length=0)&&dv (nms l) l
def lp (l:List ar):Prop:=∀(i:Nat) (x:ar),l[i]? = some x->x.name.size<=4611686018427387904/\rK x.body
theorem BU {l:List ar} {Av:Option Addr} {c b o:Nat} {css:Nat->List Value} (R:bd r l Av c b o css) (hft:lp l) (h:Hp) (hrom:h.rom=r) (hb:h.base<=h.next) :
  ∃v h1,Snd Tryz.prog 17 [.agg #[.slice Av l.length c]] h v h1/\v=.bool (co l)/\Ext h h1:=by
 refine aL wf Tryz.func17 rfl rfl (n:=39) rfl (by kernel_rfl) rfl ?_
 intro a hn hg
 have hr:Tryz.f17.results.toList=[.tmp 2]:=rfl
 have g0:=hg 0
 clear hg
 simp only[gC0,gC1] at g0
 have hP:=an hb 24 [.slice Av l.length c]
 have hx0:=Ext.new h (ak.cells ⟨[.slice Av l.length c],24,0,0,false⟩)
 have hb1:=Nat.le_succ_of_le (m:=h.next) hb
 simp -dsimp only[go_sem,g0,af hP]
 generalize h.newH (ak.cells ⟨[.slice Av l.length c],24,0,0,false⟩)=h0 at hP hx0 ⊢
 obtain ⟨_,h2,hs2,hx2,hv2⟩:=vU R h0 (hx0.rom.trans hrom) (by rw[hx0.base];exact lTr hb hx0.next)
 refine ⟨_,h2,hs2,?_⟩
 have hP2:=aj hx2 hP
 by_cases cf:fw [] (nms l)=true
 rotate_left
 ·rw[if_neg cf] at hv2
  subst hv2
  simp -dsimp only[go_sem,ai,hr]
  exact ⟨by simp[co,cf],hx0.trans hx2⟩
 rw[if_pos cf] at hv2
 obtain ⟨m,rfl,hm1,hM⟩:=hv2
 by_cases cn:l.length=0
 ·have kn:decide ((l.length:Int)=0)=true:=by rw[cZ];exact dcT cn
  simp -dsimp only[go_sem,aa hP2,kn,hr]
  exact ⟨by simp[co,cn],hx0.trans hx2⟩
 have kn:decide ((l.length:Int)=0)=false:=by rw[cZ];exact dcF cn
 have e:co l=dv (nms l) l:=by simp[co,cf,cn]
 simp -dsimp only[go_sem,aa hP2,kn,hr]
 have hx02:=hx0.trans hx2
 refine au (n:=39) (by kernel_rfl) (fun m' a' h'=>∃i:Nat,i<=l.length/\m'=l.length - i/\Ext h2 h'/\dv (nms l) (l.drop i)=dv (nms l) l /\
  a'.get 3=.map (some m)/\a'.get 21=.slice Av l.length c/\a'.get 22=.int .i64 l.length/\a'.get 23=.int .i64 i) ?_ l.length _ _ (by simp -dsimp only[go_sem,hn]) ⟨0,lZr _,rfl,Ext.refl _,rfl,by simp -dsimp only[go_sem];rfl⟩
 rintro m' a' h' hn' ⟨i,hi,rfl,hx,hst,e3,e21,e22,e23⟩
 have hrom':h'.rom=r:=(hx02.trans hx).rom.trans hrom
 have hb':h'.base<=h'.next:=by rw[(hx02.trans hx).base];exact lTr hb (hx02.trans hx).next
 by_cases hlt:i<l.length
 ·have hpi:l[i]? = some l[i]:=gEl hlt
  have hi1:decide ((i:Int)<(l.length:Int))=true:=dcT (Int.ofNat_lt.2 hlt)
  obtain ⟨Av1,c1',hcs⟩:=(R.hk i _ hpi).shape
  have hat':=R.hat i _ hpi
  have hkid:=R.hk i _ hpi
  rw[hcs] at hat' hkid
  have hAv:=R.hA (aO hlt)
  subst hAv
  obtain ⟨vS,vO,vX,vB,vR⟩:=gE hb' (e:=50) (c0:=[.string ⟨#[]⟩,.string ⟨#[]⟩,.string ⟨#[]⟩,.slice none 0 0]) (c1:=[.string l[i].name,.string l[i].body.d,.string l[i].body.t,.slice Av1 l[i].body.l.length c1']) rfl rfl (by simp)
  rw[List.drop_eq_getElem_cons hlt,dv] at hst
  simp -dsimp only[go_sem,e3,e21,e22,e23,hi1,eQ hlt,az (n:=4) hrom' hat' rfl,vS,aa vO]
  refine ⟨_,_,BR l[i].name (hft i _ hpi).1 _,?_⟩
  cases hpl:gg l[i].name with
  | false =>
    rw[hpl] at hst
    simp -dsimp only[go_sem,ai,hr]
    exact ⟨by rw[e,<-hst];rfl,(hx02.trans hx).trans vX⟩
  | true =>
    rw[hpl,Bool.true_and] at hst
    simp -dsimp only[go_sem,e3,e22,e23,af vO]
    obtain ⟨_,h4,hs4,rfl,hx4⟩:=BT _ l[i].body (lSs _) _ _ (vR.trans hrom') vB ((hM.ext hx).ext vX) hkid (hft i _ hpi).2
    refine ⟨_,h4,hs4,?_⟩
    have hx5:=hx.trans (vX.trans hx4)
    cases hrp:ay (nms l) l[i].body with
    | false =>
      rw[hrp] at hst
      simp -dsimp only[go_sem,hr]
      exact ⟨by rw[e,<-hst];rfl,hx02.trans hx5⟩
    | true =>
      rw[hrp,Bool.true_and] at hst
      simp -dsimp only[go_sem,e22,e23,ah hlt (lTr R.hb (by decide))]
      exact ⟨l.length - (i+1),by omega,i+1,hlt,rfl,hx5,hst,e3,e21,rfl⟩
 ·have hi0:decide ((i:Int)<(l.length:Int))=false:=dcF (by omega)
  rw[List.drop_eq_nil_of_le (by omega),dv] at hst
  simp -dsimp only[go_sem,e22,e23,hi0,hr]
  exact ⟨by rw[e,<-hst],hx02.trans hx⟩
end
section
variable {r:Ro}
theorem fN {nm:List ByteArray} {d t:ByteArray} {n:Nat} (h:aU nm d t n=true) (hd:d.data.toList=[114,117,108,101]):ae nm t<nm.length:=by
 unfold aU at h
 rw[if_neg (by rw[hd];decide),if_pos hd,Bool.and_eq_true] at h
 exact dcO h.2
theorem tB {nm:List ByteArray} {d t:ByteArray} {n:Nat} (h:aU nm d t n=true) (hd:yQ d):n=1:=by
 unfold aU at h
 have k1:d.data.toList≠[105,115]:=by rcases hd with hd|hd|hd<;>rw[hd]<;>decide
 have k2:d.data.toList≠[114,117,108,101]:=by rcases hd with hd|hd|hd<;>rw[hd]<;>decide
 have k3:¬(d.data.toList=[97,110,121]\/d.data.toList=[110,111,116,104,105,110,103]):=by rcases hd with hd|hd|hd<;>rw[hd]<;>decide
 have k4:¬(d.data.toList=[115,101,113]\/d.data.toList=[111,114]):=by rcases hd with hd|hd|hd<;>rw[hd]<;>decide
 rw[if_neg k1,if_neg k2] at h
 split at h
 ·cases h
 ·rw[if_pos (show _\/_\/_ from hd)] at h
  exact dcO h
mutual
theorem jc {nm:List ByteArray}:∀(p:ad),ay nm p=true->dm nm p
 | ⟨d,t,l⟩,h=>by
   rw[ay,Bool.and_eq_true] at h
   rw[dm]
   exact ⟨fN h.2,tB h.2,lq l h.1⟩
theorem lq {nm:List ByteArray}:∀(l:List ad),b6 nm l=true->lN nm l
 | [],_=>by rw[lN];trivial
 | x::l,h=>by
   rw[b6,Bool.and_eq_true] at h
   rw[lN]
   exact ⟨jc x h.1,lq l h.2⟩
end
theorem ew {nm:List ByteArray}:∀{l:List ar},dv nm l=true->∀(i:Nat) (x:ar),l[i]? = some x->ay nm x.body=true
 | y::l,h,i,x,hx=>by
   rw[dv,Bool.and_eq_true,Bool.and_eq_true] at h
   cases i with
   | zero=>simp at hx;subst hx;exact h.1.2
   | succ i=>exact ew h.2 i x (by simpa using hx)
theorem iz {l:List ar} (h:co l=true):fw [] (nms l)=true/\∀(i:Nat) (x:ar),l[i]? = some x->dm (nms l) x.body:=by
 rw[co,Bool.and_eq_true,Bool.and_eq_true] at h
 exact ⟨h.1.1,fun i x hx=>jc _ (ew h.2 i x hx)⟩
def mI (l:List ar) (em:List Bool):Bool := !(eT l em).any (true == ·)
theorem zX {l:List ar} {Av:Option Addr} {c b o:Nat} {css:Nat->List Value} (R:bd r l Av c b o css) (hft:lp l) (h:Hp) (hrom:h.rom=r) (hb:h.base<=h.next) :
  ∃v h1,Snd Tryz.prog 44 [.agg #[.slice Av l.length c]] h v h1/\Ext h h1/\(if co l=true then ∃bk m eb em,v=.tuple #[.pointer (some ⟨bk,0,none⟩),.bool (mI l em)]/\h.next<=bk/\h.next<=m/\h.next<=eb/\Book h1 bk m eb (.slice Av l.length c) (nms l) em/\Found l em
   else v=.tuple #[.pointer none,.bool false]):=by
 refine aL wf Tryz.func44 rfl rfl (n:=15) rfl (by kernel_rfl) rfl ?_
 intro a hn hg
 have hr:Tryz.f44.results.toList=[.tmp 2,.tmp 3]:=rfl
 have g0:=hg 0
 clear hg
 simp only[gC0,gC1] at g0
 have hP:=an hb 24 [.slice Av l.length c]
 have hx0:=Ext.new h (ak.cells ⟨[.slice Av l.length c],24,0,0,false⟩)
 simp -dsimp only[go_sem,g0,af hP]
 generalize h.newH (ak.cells ⟨[.slice Av l.length c],24,0,0,false⟩)=h0 at hP hx0 ⊢
 have hb0:h0.base<=h0.next:=by rw[hx0.base];exact lTr hb hx0.next
 obtain ⟨_,h2,hs2,rfl,hx2⟩:=BU R hft h0 (hx0.rom.trans hrom) hb0
 refine ⟨_,h2,hs2,?_⟩
 have hP2:=aj hx2 hP
 have hx02:=hx0.trans hx2
 have hb2:h2.base<=h2.next:=by rw[hx02.base];exact lTr hb hx02.next
 cases hrg:co l with
 | false =>
   simp -dsimp only[go_sem,hr]
   exact hx02
 | true =>
   obtain ⟨hfr,hnm⟩:=iz hrg
   simp -dsimp only[go_sem,af hP2]
   obtain ⟨_,h4,hs4,hx4,bk,m,eb,em,rfl,l1,l2,l3,hB,hF⟩:=Db R hfr hnm h2 (hx02.rom.trans hrom) hb2
   refine ⟨_,h4,hs4,?_⟩
   have hx04:=hx02.trans hx4
   have hb4:h4.base<=h4.next:=by rw[hx04.base];exact lTr hb hx04.next
   try simp -dsimp only[go_sem]
   obtain ⟨_,h5,hs5,hx5,ob,rfl,l4,hO⟩:=tq R hnm h4 (hx04.rom.trans hrom) hb4 hB
   refine ⟨_,h5,hs5,?_⟩
   have hx05:=hx04.trans hx5
   have hb5:h5.base<=h5.next:=by rw[hx05.base];exact lTr hb hx05.next
   try simp -dsimp only[go_sem]
   obtain ⟨_,h6,hs6,rfl,hx6⟩:=uQ h5 hb5 hO (by rw[gQ];exact R.hb) true
   rw[gQ] at hs6
   refine ⟨_,h6,hs6,?_⟩
   simp -dsimp only[go_sem,hr]
   exact ⟨hx05.trans hx6,bk,m,eb,em,rfl,lTr hx02.next l1,lTr hx02.next l2,lTr hx02.next l3,(hB.ext hx5).ext hx6,hF⟩
def gB (l:List ar) (em:List Bool) (s:ByteArray):Bool:=mI l em&&decide (ae (nms l) s<l.length)
def DX (l:List ar) (Av:Option Addr) (c:Nat) (s:ByteArray) (h:Hp) (v:Value) (h1:Hp):Prop:=Ext h h1 /\
 ((v=.tuple #[.pointer none,.agg #[.string ⟨#[]⟩,.string ⟨#[]⟩,.slice none 0 0],.bool false]/\(co l=true->∃em,Found l em/\gB l em s=false)) \/
   (co l=true/\∃bk m eb em,v=.tuple #[.pointer (some ⟨bk,0,none⟩),.agg #[.string ⟨#[114,117,108,101]⟩,.string s,.slice none 0 0],.bool true]/\h.next<=bk/\h.next<=m/\h.next<=eb/\Book h1 bk m eb (.slice Av l.length c) (nms l) em/\Found l em/\gB l em s=true))
theorem Df {l:List ar} {Av:Option Addr} {c b o:Nat} {css:Nat->List Value} (R:bd r l Av c b o css) (hft:lp l) (s:ByteArray) (h:Hp) (hrom:h.rom=r) (hb:h.base<=h.next) :
  ∃v h1,Snd Tryz.prog 22 [.agg #[.slice Av l.length c],.string s] h v h1/\DX l Av c s h v h1:=by
 refine aL wf Tryz.func22 rfl rfl (n:=32) rfl (by kernel_rfl) rfl ?_
 intro a hn hg
 have hr:Tryz.f22.results.toList=[.tmp 4,.cell 5 48,.tmp 6]:=rfl
 have g0:=hg 0
 have g1:=hg 1
 clear hg
 simp only[gC0,gC1] at g0 g1
 have hnl:(nms l).length=l.length:=by simp[nms]
 have hP:=an hb 24 [.slice Av l.length c]
 have hx0:=Ext.new h (ak.cells ⟨[.slice Av l.length c],24,0,0,false⟩)
 have hb0:=Nat.le_succ_of_le (m:=h.next) hb
 simp -dsimp only[go_sem,g0,g1,af hP,bu]
 have hZ:=an (h:=h.newH (ak.cells ⟨[.slice Av l.length c],24,0,0,false⟩)) hb0 48 [.string ⟨#[]⟩,.string ⟨#[]⟩,.slice none 0 0]
 have hP1:=db hP (ak.cells ⟨[.string ⟨#[]⟩,.string ⟨#[]⟩,.slice none 0 0],48,0,0,false⟩)
 have hx1:=hx0.trans (Ext.new _ (ak.cells ⟨[.string ⟨#[]⟩,.string ⟨#[]⟩,.slice none 0 0],48,0,0,false⟩))
 simp -dsimp only[go_sem,af hP1]
 simp only[bu] at hZ
 generalize (h.newH (ak.cells ⟨[.slice Av l.length c],24,0,0,false⟩)).newH (ak.cells ⟨[.string ⟨#[]⟩,.string ⟨#[]⟩,.slice none 0 0],48,0,0,false⟩)=h0 at hP1 hZ hx1 ⊢
 obtain ⟨_,h2,hs2,hx2,hv2⟩:=zX R hft h0 (hx1.rom.trans hrom) (by rw[hx1.base];exact lTr hb hx1.next)
 refine ⟨_,h2,hs2,?_⟩
 have hx02:=hx1.trans hx2
 have hZ2:=aj hx2 hZ
 have hs0:=aE hZ2 (o:=0) (vs:=[.string ⟨#[]⟩,.string ⟨#[]⟩,.slice none 0 0]) (c1:=[.string ⟨#[]⟩,.string ⟨#[]⟩,.slice none 0 0]) rfl rfl (by simp)
 have hs1:=aE hZ2 (o:=0) (vs:=[.string ⟨#[114,117,108,101]⟩,.string s,.slice none 0 0]) (c1:=[.string ⟨#[114,117,108,101]⟩,.string s,.slice none 0 0]) rfl rfl (by simp)
 have hZ0:=av hZ2 [.string ⟨#[]⟩,.string ⟨#[]⟩,.slice none 0 0]
 have hZ1:=av hZ2 [.string ⟨#[114,117,108,101]⟩,.string s,.slice none 0 0]
 have hxe:=fun o:ak=>hx02.put (b:=h.next+1) (Nat.le_succ _) o
 cases hrg:co l with
 | false =>
   rw[if_neg (by rw[hrg];simp)] at hv2
   subst hv2
   simp -dsimp only[go_sem,hs0,hr,af hZ0]
   exact ⟨hxe _,.inl ⟨rfl,fun e=>by rw[hrg] at e;cases e⟩⟩
 | true =>
   rw[if_pos hrg] at hv2
   obtain ⟨bk,m,eb,em,rfl,l1,l2,l3,hB,hF⟩:=hv2
   cases hfi:mI l em with
   | false =>
     simp -dsimp only[go_sem,hs0,hr,af hZ0]
     exact ⟨hxe _,.inl ⟨rfl,fun _=>⟨em,hF,by simp[gB,hfi]⟩⟩⟩
   | true =>
     have hM:MapAt h2 m (nms l):=hB.map
     by_cases ci:ae (nms l) s<(nms l).length
     ·simp -dsimp only[go_sem,g1,aa hB.own,hM.hit ci,hs1,hr,af hZ1]
      have hne:bk≠h.next+1:=by have:=hx1.next;have:=hZ.2.1;omega
      refine ⟨hxe _,.inr ⟨hrg,bk,m,eb,em,rfl,by have:=hx1.next;omega,by have:=hx1.next;omega,by have:=hx1.next;omega,?_,hF,?_⟩⟩
      ·refine hB.extS (S:=aR (h.next+1)) (((Ext.refl h2).toS (S:=aR (h.next+1))).put (b:=h.next+1) (.inr rfl) _) hne ?_ ?_
       ·have:=hZ.2.1;show ¬m=h.next+1;omega
       ·have:=hZ.2.1;show ¬eb=h.next+1;omega
      ·rw[hnl] at ci
       simp[gB,hfi,ci]
     ·simp -dsimp only[go_sem,g1,aa hB.own,hM.miss ci,hs0,hr,af hZ0]
      rw[hnl] at ci
      exact ⟨hxe _,.inl ⟨rfl,fun _=>⟨em,hF,by simp[gB,ci]⟩⟩⟩
end
section
variable {r:Ro} {h:Hp}
def DY (q:Option ByteArray) (s:ByteArray):Bool:=match q with
 | none=>true
 | some t=>decide (s.data.toList=t.data.toList)
end
end Go.Ev.Z24
end
