/- The law MakesAll holds: for every grammar, rule and number, Makes answers with the document's lists in their order, where the document's answer speaks (at most 300 lists, of at most 6 items): part 3 of 6. -/
import Derived.Test.YtcnllhnhinmokaaGreatMA1
import Derived.Test.YtcnllhnhinmokaaGreatProg
import Derived.Test.YtcnllhnhinmokaaGreatRows
import Derived.WalkKit
import Derived.ProofKit
import Derived.OpenShut
import Derived.ShutString
import Derived.ChangeOld
import Derived.Below
import Derived.SizedLaws
import Derived.Carry
set_option linter.unusedVariables false
set_option linter.unusedSimpArgs false
set_option maxRecDepth 100000
set_option maxHeartbeats 16000000
section
namespace Go.Ev.Z24
open Go.RowKit Go.Proofs
section
variable {h h1 h2:Hp} {B F B' F':Nat->Prop}
structure qz (h:Hp) (b:Nat) (cs:List Value) (f:Nat):Prop where
 lo:h.base<=b
 lt:b<h.next
 row:∃bs g,h.row b=some ⟨cs,44,f,bs,g⟩
 fl:f≠0->f<h.nfam
theorem xC {b o n:Nat} {cs:List Value} {f:Nat} (k:qz h b cs f):h.loads ⟨b,o,none⟩ n=bU (cs.drop o) n:=by
 obtain ⟨bs,g,hr⟩:=k.row
 cases n with
 | zero=>simp[Hp.loads,bU]
 | succ n=>simp only[Hp.loads,dU k.lo,hr]
structure Keeps (B F:Nat->Prop) (h h1:Hp):Prop where
 base:h1.base=h.base
 ro:h1.ro=h.ro
 next:h.next<=h1.next
 nfam:h.nfam<=h1.nfam
 rows:∀b cs f,qz h b cs f->¬B b->¬F f->qz h1 b cs f
theorem Keeps.trans (x:Keeps B F h h1) (y:Keeps B F h1 h2):Keeps B F h h2 :=
 ⟨y.base.trans x.base,y.ro.trans x.ro,lTr x.next y.next,lTr x.nfam y.nfam,fun b cs f k hb hf=>y.rows b cs f (x.rows b cs f k hb hf) hb hf⟩
theorem Keeps.mono (x:Keeps B F h h1) (hB:∀b,b<h.next->B b->B' b) (hF:∀f,f≠0->f<h.nfam->F f->F' f) (h0:¬F 0):Keeps B' F' h h1 :=
 ⟨x.base,x.ro,x.next,x.nfam,fun b cs f k hb hf=>x.rows b cs f k (fun c=>hb (hB b k.lt c)) (fun c=>hf (hF f (fun e=>h0 (e ▸ c)) (k.fl (fun e=>h0 (e ▸ c))) c))⟩
theorem Dg {S:Nat->Prop} (x:ExtS S h h1):Keeps S (fun _=>False) h h1:=by
 refine ⟨x.base,x.ro,x.next,x.nfam,fun b cs f k hb _=>⟨by rw[x.base];exact k.lo,lTl k.lt x.next,?_,fun e=>lTl (k.fl e) x.nfam⟩⟩
 obtain ⟨bs,g,hr⟩:=k.row
 refine ⟨bs,g,?_⟩
 unfold Hp.row at hr ⊢
 rw[x.objs b k.lt hb]
 cases hg:h.objs.get b with
 | none=>rw[hg] at hr;cases hr
 | some ob =>
   rw[hg] at hr
   cases ob with
   | cells r =>
     simp only at hr ⊢
     cases hf:r.fam with
     | zero=>rw[hf] at hr;exact hr
     | succ q =>
       rw[hf] at hr
       simp only at hr ⊢
       have hrf:r=⟨cs,44,f,bs,g⟩:=by
        split at hr
        ·split at hr
         ·injection hr
         ·cases hr
        ·cases hr
       have hfq:f=q+1:=by rw[<-hf,hrf]
       rw[x.fams (q+1) (by rw[<-hfq];exact k.fl (by omega))]
       exact hr
   | map es k=>cases hr
   | sIter s p=>cases hr
   | mIter a b c d=>cases hr
theorem zY (x:Ext h h1):Keeps (fun _=>False) (fun _=>False) h h1:=Dg (x.toS (S:=fun _=>False))
inductive TreeAt (h:Hp) (B F:Nat->Prop):ad->List Value->Prop
 | mk (d t:ByteArray) (l:List ad) (Av:Option Addr) (c b o f:Nat) (row:List Value) (css:Nat->List Value) (hc:l.length<=c) (hs:spotless Av=true)
  (hA:l≠[]->Av=some ⟨b,o,none⟩/\qz h b row f/\¬B b/\¬F f) (hat:∀(i:Nat) (p:ad),l[i]? = some p->bU (row.drop (o+i*3)) 3=some (css i)) (hk:∀(i:Nat) (p:ad),l[i]? = some p->TreeAt h B F p (css i)) :
  TreeAt h B F ⟨d,t,l⟩ [.string d,.string t,.slice Av l.length c]
def KidsAt (h:Hp) (B F:Nat->Prop) (l:List ad) (v:Value):Prop:=∃(Av:Option Addr) (c b o f:Nat) (row:List Value) (css:Nat->List Value),v=.slice Av l.length c/\l.length<=c/\spotless Av=true /\
 (l≠[]->Av=some ⟨b,o,none⟩/\qz h b row f/\¬B b/\¬F f)/\(∀(i:Nat) (p:ad),l[i]? = some p->bU (row.drop (o+i*3)) 3=some (css i))/\∀(i:Nat) (p:ad),l[i]? = some p->TreeAt h B F p (css i)
theorem TreeAt.kids {p:ad} {cs:List Value} (k:TreeAt h B F p cs):∃v,cs=[.string p.d,.string p.t,v]/\KidsAt h B F p.l v:=by
 cases k with
 | mk d t l Av c b o f row css hc hs hA hat hk=>exact ⟨_,rfl,Av,c,b,o,f,row,css,rfl,hc,hs,hA,hat,hk⟩
theorem KidsAt.tree {d t:ByteArray} {l:List ad} {v:Value} (k:KidsAt h B F l v):TreeAt h B F ⟨d,t,l⟩ [.string d,.string t,v]:=by
 obtain ⟨Av,c,b,o,f,row,css,rfl,hc,hs,hA,hat,hk⟩:=k
 exact .mk d t l Av c b o f row css hc hs hA hat hk
theorem TreeAt.keep (x:Keeps B F h h1) {p:ad} {cs:List Value} (k:TreeAt h B F p cs):TreeAt h1 B F p cs:=by
 induction k with
 | mk d t l Av c b o f row css hc hs hA hat hk ih =>
   exact .mk d t l Av c b o f row css hc hs (fun e=>let ⟨a1,a2,a3,a4⟩:=hA e;⟨a1,x.rows _ _ _ a2 a3 a4,a3,a4⟩) hat ih
theorem KidsAt.keep (x:Keeps B F h h1) {l:List ad} {v:Value} (k:KidsAt h B F l v):KidsAt h1 B F l v:=by
 obtain ⟨Av,c,b,o,f,row,css,rfl,hc,hs,hA,hat,hk⟩:=k
 exact ⟨Av,c,b,o,f,row,css,rfl,hc,hs,fun e=>let ⟨a1,a2,a3,a4⟩:=hA e;⟨a1,x.rows _ _ _ a2 a3 a4,a3,a4⟩,hat,fun i p e=>(hk i p e).keep x⟩
theorem TreeAt.more (hB:∀b,b<h.next->B' b->B b) (hF:∀f,F' f->F f\/(f≠0/\h.nfam<=f)) {p:ad} {cs:List Value} (k:TreeAt h B F p cs):TreeAt h B' F' p cs:=by
 induction k with
 | mk d t l Av c b o f row css hc hs hA hat hk ih =>
   refine .mk d t l Av c b o f row css hc hs (fun e => ?_) hat ih
   obtain ⟨a1,a2,a3,a4⟩:=hA e
   refine ⟨a1,a2,fun c=>a3 (hB _ a2.lt c),fun c => ?_⟩
   rcases hF _ c with q|⟨q1,q2⟩
   ·exact a4 q
   ·have:=a2.fl q1;omega
theorem KidsAt.more (hB:∀b,b<h.next->B' b->B b) (hF:∀f,F' f->F f\/(f≠0/\h.nfam<=f)) {l:List ad} {v:Value} (k:KidsAt h B F l v):KidsAt h B' F' l v:=by
 obtain ⟨Av,c,b,o,f,row,css,rfl,hc,hs,hA,hat,hk⟩:=k
 refine ⟨Av,c,b,o,f,row,css,rfl,hc,hs,fun e => ?_,hat,fun i p e=>(hk i p e).more hB hF⟩
 obtain ⟨a1,a2,a3,a4⟩:=hA e
 refine ⟨a1,a2,fun c=>a3 (hB _ a2.lt c),fun c => ?_⟩
 rcases hF _ c with q|⟨q1,q2⟩
 ·exact a4 q
 ·have:=a2.fl q1;omega
theorem KidsAt.nil:KidsAt h B F [] (.slice none 0 0):=⟨none,0,0,0,0,[],fun _=>[],rfl,lRf _,rfl,fun e=>absurd rfl e,fun i p e=>by simp at e,fun i p e=>by simp at e⟩
theorem cQ {P:Program} {t e:TypeId} {s:Nat} {z:Value} (hu:P.underlying t=some (.slice e)) (hs:aA P e=some s) (hz:bE P e=some z) (hzl:Nat.beq z.cells.toList.length s=true/\0<s)
  (hby:(match P.info? e with|some i=>Nat.ble i.bytes 100000&&Nat.blt 0 i.bytes|none=>false)=true) (h:Hp) {base:Option Addr} {len cap n:Nat} {x:Value} {r:List Value} {xt:List TypeId} {new:List Value}
  (hn:d7 x=some n) (hf:bS h s n x=some new) (hl:len+n<=1000000) (hc:len<=cap) (h1:new.all oneCell=true) (h2:new.length=n*s) (hni:noInt P xt=true) :
  bt P h (t::xt) (.slice base len cap::x::r)=apd h e s base len cap n new:=by
 cases hi:P.info? e with
 | none=>rw[hi] at hby;cases hby
 | some i =>
   rw[hi] at hby
   simp only[Bool.and_eq_true] at hby
   have hsz:i.size=s:=by unfold aA at hs;rw[hi] at hs;injection hs
   have b1:Nat.blt 0 s=true:=by simpa using hzl.2
   have b2:Nat.ble (len+n) 1000000=true:=by simpa using hl
   have b3:Nat.ble len cap=true:=by simpa using hc
   have b4:Nat.beq new.length (n*s)=true:=by rw[h2];simp
   simp only[bt,hu,hni,hi,hz,hsz,hzl.1,b1,hby.1,hby.2,hn,hf,b2,b3,h1,b4]
theorem dX {a b:Nat} (h:b<a):Nat.ble a b=false:=by
 cases e:Nat.ble a b with
 | false=>rfl
 | true=>have:=Nat.le_of_ble_eq_true e;omega
end
section
variable {h h1 h2:Hp} {B F B' F':Nat->Prop}
theorem pf:∀(n:Nat) (l:List Value),n<=l.length->bU l n=some (l.take n)
 | 0,l,_=>by cases l<;>rfl
 | n+1,[],h=>by simp at h
 | n+1,v::l,h=>by simp only[bU,pf n l (by simpa using h),List.take_succ_cons]
theorem iA:∀(n:Nat) (l x:List Value),bU l n=some x->n<=l.length/\x=l.take n
 | 0,l,x,h=>by
   have:x=[]:=by cases l<;>simp[bU] at h<;>first|exact h.symm|exact h
   subst this
   exact ⟨lZr _,rfl⟩
 | n+1,[],x,h=>by simp[bU] at h
 | n+1,v::l,x,h=>by
   simp only[bU] at h
   split at h
   ·rename_i y hy
    injection h with h
    subst h
    obtain ⟨h1,h2⟩:=iA n l y hy
    exact ⟨by simpa using h1,by rw[h2,List.take_succ_cons]⟩
   ·cases h
theorem uV {row:List Value} {o n:Nat} {css:Nat->List Value} (h:∀i,i<n->bU (row.drop (o+i*3)) 3=some (css i)) (hn:0<n) :
  ∃new,bU (row.drop o) (n*3)=some new/\new.length=n*3/\∀i,i<n->bU (new.drop (i*3)) 3=some (css i):=by
 obtain ⟨q1,_⟩:=iA _ _ _ (h (n - 1) (by omega))
 rw[List.length_drop] at q1
 have hlen:n*3<=(row.drop o).length:=by rw[List.length_drop];omega
 refine ⟨_,pf _ _ hlen,by rw[List.length_take];omega,fun i hi => ?_⟩
 obtain ⟨p1,p2⟩:=iA _ _ _ (h i hi)
 rw[pf _ _ (by rw[List.length_drop,List.length_take];omega),p2]
 congr 1
 rw[List.drop_take,List.take_take,List.drop_drop,Nat.min_eq_left (by omega)]
theorem tC {new:List Value} {n:Nat} {css:Nat->List Value} (hl:new.length=n*3) (h:∀i,i<n->bU (new.drop (i*3)) 3=some (css i)) (hc:∀i,i<n->(css i).all oneCell=true):new.all oneCell=true:=by
 rw[List.all_eq_true]
 intro x hx
 obtain ⟨q,hq,rfl⟩:=List.mem_iff_getElem.1 hx
 have hi:q / 3<n:=by omega
 obtain ⟨_,p2⟩:=iA _ _ _ (h _ hi)
 have hm:new[q]∈css (q / 3):=by
  rw[p2,List.mem_iff_getElem?]
  refine ⟨q % 3,?_⟩
  rw[List.getElem?_take_of_lt (by omega),List.getElem?_drop,show q / 3*3+q % 3=q by omega,gEl hq]
 exact List.all_eq_true.1 (hc _ hi) _ hm
theorem TreeAt.plain {p:ad} {cs:List Value} (k:TreeAt h B F p cs):cs.all oneCell=true:=by
 cases k with
 | mk d t l Av c b o f row css hc hs hA hat hk=>rfl
theorem zZ {α:Type} {l:List α} {i:Nat} (hi:i<l.length):l[i]? = some l[i]:=gEl hi
def Mine (h:Hp) (n0 f0:Nat) (B F:Nat->Prop) (l:List ad) (v:Value):Prop:=(l=[]/\v=.slice none 0 0) \/
 ∃(b f:Nat) (row:List Value) (css:Nat->List Value),l≠[]/\v=.slice (some ⟨b,0,none⟩) l.length l.length/\qz h b row f/\row.length=l.length*3/\n0<=b/\(f≠0->f0<=f) /\
  (∀(i:Nat) (p:ad),l[i]? = some p->bU (row.drop (i*3)) 3=some (css i))/\∀(i:Nat) (p:ad),l[i]? = some p->TreeAt h (fun x=>B x\/x=b) (fun q=>F q\/(q=f/\f≠0)) p (css i)
def EK (v:Value):Nat->Prop:=fun x=>match v with
 | .slice (some a) _ _=>x=a.block
 | _=>False
theorem KidsAt.cells {l:List ad} {v:Value} (k:KidsAt h B F l v) (hl:l≠[]):∃(new:List Value) (css:Nat->List Value),d7 v=some l.length/\bS h 3 l.length v=some new/\new.length=l.length*3/\new.all oneCell=true/\(∀i:Nat,i<l.length->bU (new.drop (i*3)) 3=some (css i))/\∀(i:Nat) (p:ad),l[i]? = some p->TreeAt h B F p (css i):=by
 obtain ⟨Av,c,b,o,f,row,css,rfl,hc,hs,hA,hat,hk⟩:=k
 obtain ⟨rfl,hr,h3,h4⟩:=hA hl
 have hpos:0<l.length:=List.length_pos_iff.2 hl
 obtain ⟨new,q1,q2,q3⟩:=uV (css:=css) (fun i hi=>hat i _ (zZ hi)) hpos
 refine ⟨new,css,rfl,?_,q2,tC q2 q3 (fun i hi=>(hk i _ (zZ hi)).plain),q3,hk⟩
 simp only[bS,xC hr,q1]
theorem KidsAt.none {v:Value} (k:KidsAt h B F [] v):d7 v=some 0/\bS h 3 0 v=some []:=by
 obtain ⟨Av,c,b,o,f,row,css,rfl,hc,hs,hA,hat,hk⟩:=k
 refine ⟨rfl,?_⟩
 cases Av with
 | none=>rfl
 | some a=>simp[bS,Hp.loads]
theorem qC {S:Nat->Prop} {h0 h':Hp} {b f:Nat} (x:ExtS S h0 h) (hb:h0.next<=b) (hf:f≠0->h0.nfam<=f) (e1:h'.base=h.base) (e2:h'.ro=h.ro) (e3:h'.next=h.next+1) (e4:h.nfam<=h'.nfam)
  (e5:∀x,x<h.next->x≠b->h'.objs.get x=h.objs.get x) (e6:∀q,q<h.nfam->¬(q=f/\f≠0)->h'.fams.get q=h.fams.get q):ExtS S h0 h' :=
 ⟨e1.trans x.base,e2.trans x.ro,by rw[e3];exact Nat.le_succ_of_le x.next,fun d hd hs=>by
  rw[e5 d (lTl hd x.next) (by omega)]
  exact x.objs d hd hs,lTr x.nfam e4,fun q hq=>by
  rw[e6 q (lTl hq x.nfam) (fun ⟨a,b⟩=>by have:=hf b;omega)]
  exact x.fams q hq⟩
end
section
variable {h h1 h2:Hp} {B F B' F':Nat->Prop}
inductive Few:ad->Prop
 | mk (d t:ByteArray) (l:List ad) (hl:l.length<=100000) (hk:∀(i:Nat) (p:ad),l[i]? = some p->Few p):Few ⟨d,t,l⟩
theorem Mine.keep {n0 f0:Nat} {l:List ad} {v:Value} (x:Ext h h1) (M:Mine h n0 f0 B F l v):Mine h1 n0 f0 B F l v:=by
 rcases M with ⟨rfl,rfl⟩|⟨b,f,row,css,hl,rfl,hr,hrl,hb0,hf,hat,hk⟩
 ·exact .inl ⟨rfl,rfl⟩
 ·exact .inr ⟨b,f,row,css,hl,rfl,(zY x).rows _ _ _ hr (fun c=>c) (fun c=>c),hrl,hb0,hf,hat,fun i p hp=>(hk i p hp).keep ((zY x).mono (fun _ _ c=>c.elim) (fun _ _ _ c=>c.elim) (fun c=>c))⟩
theorem Mine.lt {n0 f0:Nat} {l:List ad} {v:Value} (M:Mine h n0 f0 B F l v) {x:Nat} (hx:EK v x):x<h.next:=by
 rcases M with ⟨rfl,rfl⟩|⟨b,f,row,css,hl,rfl,hr,hrl,hb0,hf,hat,hk⟩
 ·exact hx.elim
 ·have:x=b:=hx
  rw[this];exact hr.lt
end
section
variable {r:Ro}
structure RoStrs (r:Ro) (items:List ByteArray) (Iv:Option Addr) (c b o:Nat):Prop where
 hc:items.length<=c
 hb:items.length<=9223372036854775807
 hA:items≠[]->Iv=some ⟨b,o,none⟩
 hat:∀(i:Nat) (s:ByteArray),items[i]? = some s->fS r b (o+i) [.string s]
 hs:spotless Iv=true
end
section
variable {r:Ro}
mutual
def cG (most:Nat):Nat->ad->Nat
 | deep,⟨d,t,l⟩=>if deep=0 then most+1 else if 200<t.data.toList.length then most+1 else if 40<d.data.toList.length then most+1 else dg most (deep - 1) l 1
def dg (most:Nat):Nat->List ad->Nat->Nat
 | _,[],n=>n
 | deep,x::l,n=>if n<=most then dg most deep l (n+cG most deep x) else n
end
mutual
theorem lZ (most:Nat):∀(p:ad) (deep:Nat),cG most deep p<=(deep+1)*(most+1)
 | ⟨d,t,l⟩,deep=>by
   have h0:most+1<=(deep+1)*(most+1):=Nat.le_mul_of_pos_left _ (Nat.succ_pos _)
   unfold cG
   split
   ·exact h0
   ·rename_i hd
    split
    ·exact h0
    ·split
     ·exact h0
     ·have:=qD most l (deep - 1) 1 (most+(deep - 1+1)*(most+1)) (lRf _) (by
       have:0<(deep - 1+1)*(most+1):=Nat.mul_pos (Nat.succ_pos _) (Nat.succ_pos _)
       omega)
      refine lTr this ?_
      rw[show deep - 1+1=deep by omega,Nat.add_mul]
      omega
theorem qD (most:Nat):∀(l:List ad) (deep n B:Nat),most+(deep+1)*(most+1)<=B->n<=B->dg most deep l n<=B
 | [],deep,n,B,_,hn=>by unfold dg;exact hn
 | x::l,deep,n,B,hB,hn=>by
   unfold dg
   split
   ·have:=lZ most x deep
    exact qD most l deep _ B hB (by omega)
   ·exact hn
end
def z7 (r:Ro) (most:Nat) (p:ad):Prop:=∀(deep:Nat) (h:Hp) (cs:List Value),deep<=1000->h.rom=r->h.base<=h.next->RoPart r p cs->∃v h1,Snd Tryz.prog 14 [.agg cs.toArray,.int .i64 (deep:Int),.int .i64 (most:Int)] h v h1/\v=.int .i64 (cG most deep p:Int)/\Ext h h1
theorem BV {most:Nat} (hmost:most<=100000):∀(n:Nat) (p:ad),SizeOf.sizeOf p<n->z7 r most p:=by
 intro n
 induction n with
 | zero=>exact fun p hp=>absurd hp (lNz _)
 | succ n ihn =>
 rintro ⟨d,t,l⟩ hn deep h cs hdeep hrom hb hp
 have ih:∀(i:Nat) (p:ad),l[i]? = some p->z7 r most p:=fun i p hp=>ihn p (by
  have:=List.sizeOf_lt_of_mem (mOg hp)
  simp only[ad.mk.sizeOf_spec] at hn
  omega)
 cases hp with
 | mk _ _ _ Av c b o css hc hlb hA hat hk hs =>
 refine aL wf Tryz.func14 rfl rfl (n:=49) rfl (by kernel_rfl) rfl ?_
 intro a hn hg
 have hr:Tryz.f14.results.toList=[.tmp 6]:=rfl
 have g0:=hg 0
 have g1:=hg 1
 have g2:=hg 2
 clear hg
 simp only[gC0,gC1] at g0 g1 g2
 have hP:=an hb 48 [.string d,.string t,.slice Av l.length c]
 have hx0:=Ext.new h (ak.cells ⟨[.string d,.string t,.slice Av l.length c],48,0,0,false⟩)
 have hb1:=Nat.le_succ_of_le (m:=h.next) hb
 have hw:IntKind.i64.wrap ((most:Int)+1)=((most+1:Nat):Int):=dq (n:=most+1) (by omega)
 by_cases cd:deep=0
 ·have k1:decide ((deep:Int)<1)=true:=dcT (by omega)
  simp -dsimp only[go_sem,ai,g0,g1,g2,k1,hw,hr]
  exact ⟨by unfold cG;rw[if_pos cd],hx0⟩
 have k1:decide ((deep:Int)<1)=false:=dcF (by omega)
 by_cases ct:200<t.data.toList.length
 ·have k2:decide ((200:Int)<(t.data.toList.length:Int))=true:=dcT (by omega)
  simp -dsimp only[go_sem,ai,g0,g1,g2,k1,k2,aa hP,hw,hr]
  exact ⟨by unfold cG;rw[if_neg cd,if_pos ct],hx0⟩
 have k2:decide ((200:Int)<(t.data.toList.length:Int))=false:=dcF (by omega)
 by_cases cdo:40<d.data.toList.length
 ·have k3:decide ((40:Int)<(d.data.toList.length:Int))=true:=dcT (by omega)
  simp -dsimp only[go_sem,ai,g0,g1,g2,k1,k2,k3,aa hP,hw,hr]
  exact ⟨by unfold cG;rw[if_neg cd,if_neg ct,if_pos cdo],hx0⟩
 have k3:decide ((40:Int)<(d.data.toList.length:Int))=false:=dcF (by omega)
 have e:cG most deep ⟨d,t,l⟩=dg most (deep - 1) l 1:=by unfold cG;rw[if_neg cd,if_neg ct,if_neg cdo]
 simp -dsimp only[go_sem,ai,g0,g1,g2,k1,k2,k3,aa hP]
 refine au (n:=49) (by kernel_rfl) (fun m' a' h'=>∃i k:Nat,i<=l.length/\m'=l.length - i/\k<=1002*(most+1)/\Ext (h.newH (ak.cells ⟨[.string d,.string t,.slice Av l.length c],48,0,0,false⟩)) h'/\dg most (deep - 1) (l.drop i) k=dg most (deep - 1) l 1 /\
  a'.get 1=.int .i64 deep/\a'.get 2=.int .i64 most/\a'.get 3=.pointer (some ⟨h.next,0,none⟩)/\a'.get 7=.int .i64 k/\a'.get 8=.int .i64 i) ?_ l.length _ _ (by simp -dsimp only[go_sem,hn]) ⟨0,1,lZr _,rfl,by omega,Ext.refl _,rfl,by simp -dsimp only[go_sem,g1],by simp -dsimp only[go_sem,g2],by simp -dsimp only[go_sem],by simp -dsimp only[go_sem];rfl,by simp -dsimp only[go_sem];rfl⟩
 rintro m' a' h' hn' ⟨i,k,hi,rfl,hkb,hx,hst,e1,e2,e3,e7,e8⟩
 have hrom':h'.rom=r:=hx.rom.trans hrom
 have hb':h'.base<=h'.next:=by rw[hx.base];exact lTr hb1 hx.next
 have hP':=aj hx hP
 by_cases hlt:i<l.length
 ·have hpi:l[i]? = some l[i]:=gEl hlt
  have hi1:decide ((i:Int)<(l.length:Int))=true:=dcT (Int.ofNat_lt.2 hlt)
  rw[List.drop_eq_getElem_cons hlt,dg] at hst
  by_cases ck:k<=most
  ·have k4:decide ((k:Int)<=(most:Int))=true:=dcT (by omega)
   rw[if_pos ck] at hst
   obtain ⟨Av1,c1',hcs⟩:=(hk i _ hpi).shape
   have hat':=hat i _ hpi
   have hkid:=hk i _ hpi
   rw[hcs] at hat' hkid
   have hAv:=hA (aO hlt)
   subst hAv
   have hwd:IntKind.i64.wrap ((deep:Int) - 1)=((deep - 1:Nat):Int):=by rw[IntKind.wrap_i64];omega
   simp -dsimp only[go_sem,e1,e2,e3,e7,e8,hi1,k4,aa hP',eR hlt,az (n:=3) hrom' hat' rfl,hwd]
   obtain ⟨_,h2,hs2,rfl,hx2⟩:=ih i _ hpi (deep - 1) h' _ (by omega) hrom' hb' hkid
   refine ⟨_,h2,hs2,?_⟩
   have hle:=lZ most l[i] (deep - 1)
   have hle2:(deep - 1+1)*(most+1)<=1001*(most+1):=Nat.mul_le_mul_right _ (by omega)
   have hwk:IntKind.i64.wrap ((k:Int)+(cG most (deep - 1) l[i]:Int))=((k+cG most (deep - 1) l[i]:Nat):Int):=by rw[IntKind.wrap_i64];omega
   simp -dsimp only[go_sem,e1,e2,e3,e7,e8,hwk,ah hlt hlb]
   exact ⟨l.length - (i+1),by omega,i+1,_,hlt,rfl,by omega,hx.trans hx2,hst,rfl,rfl⟩
  ·have k4:decide ((k:Int)<=(most:Int))=false:=dcF (by omega)
   rw[if_neg ck] at hst
   simp -dsimp only[go_sem,e1,e2,e3,e7,e8,hi1,k4,aa hP',hr]
   exact ⟨by rw[e,<-hst],hx0.trans hx⟩
 ·have hi0:decide ((i:Int)<(l.length:Int))=false:=dcF (by omega)
  rw[List.drop_eq_nil_of_le (by omega),dg] at hst
  simp -dsimp only[go_sem,ai,e1,e2,e3,e7,e8,hi0,aa hP',hr]
  exact ⟨by rw[e,<-hst],hx0.trans hx⟩
end
section
variable {r:Ro}
def eP (most:Nat):List ar->Nat->Option Nat
 | [],n=>some n
 | x::l,n=>if n<=most then (if 200<x.name.data.toList.length then none else eP most l (n+cG most 40 x.body)) else some n
def gh (most:Nat) (l:List ar):Bool:=match eP most l 0 with
 | none=>false
 | some n=>decide (n<=most)&&decide (l.length<=30)
theorem dY {b o:Nat} {v:Value} {cs:List Value} (h:fS r b o (v::cs)):fS r b (o+1) cs :=
 ⟨h.1,fun j u hj=>by rw[show o+1+j=o+(j+1) by omega];exact h.2 (j+1) u (by simpa using hj)⟩
theorem BW {l:List ar} {Av:Option Addr} {c b o:Nat} {css:Nat->List Value} (hlb:l.length<=9223372036854775807) (hA:l≠[]->Av=some ⟨b,o,none⟩) (hat:∀(i:Nat) (x:ar),l[i]? = some x->fS r b (o+i*4) (.string x.name::css i)) (hk:∀(i:Nat) (x:ar),l[i]? = some x->RoPart r x.body (css i))
  {most:Nat} (hmost:most<=100000) (h:Hp) (hrom:h.rom=r) (hb:h.base<=h.next) :
  ∃v h1,Snd Tryz.prog 5 [.agg #[.slice Av l.length c],.int .i64 (most:Int)] h v h1/\v=.bool (gh most l)/\Ext h h1:=by
 refine aL wf Tryz.func5 rfl rfl (n:=46) rfl (by kernel_rfl) rfl ?_
 intro a hn hg
 have hr:Tryz.f5.results.toList=[.tmp 4]:=rfl
 have g0:=hg 0
 have g1:=hg 1
 clear hg
 simp only[gC0,gC1] at g0 g1
 have hP:=an hb 24 [.slice Av l.length c]
 have hx0:=Ext.new h (ak.cells ⟨[.slice Av l.length c],24,0,0,false⟩)
 have hb1:=Nat.le_succ_of_le (m:=h.next) hb
 simp -dsimp only[go_sem,g0,g1]
 refine au (n:=46) (by kernel_rfl) (fun m' a' h'=>∃i k:Nat,i<=l.length/\m'=l.length - i/\k<=42*(most+1)/\Ext (h.newH (ak.cells ⟨[.slice Av l.length c],24,0,0,false⟩)) h'/\eP most (l.drop i) k=eP most l 0 /\
  a'.get 1=.int .i64 most/\a'.get 2=.pointer (some ⟨h.next,0,none⟩)/\a'.get 5=.int .i64 k/\a'.get 6=.int .i64 i) ?_ l.length _ _ (by simp -dsimp only[go_sem,hn]) ⟨0,0,lZr _,rfl,lZr _,Ext.refl _,rfl,by simp -dsimp only[go_sem,g1],by simp -dsimp only[go_sem],by simp -dsimp only[go_sem];rfl,by simp -dsimp only[go_sem];rfl⟩
 rintro m' a' h' hn' ⟨i,k,hi,rfl,hkb,hx,hst,e1,e2,e5,e6⟩
 have hrom':h'.rom=r:=hx.rom.trans hrom
 have hb':h'.base<=h'.next:=by rw[hx.base];exact lTr hb1 hx.next
 have hP':=aj hx hP
 have k30:decide ((l.length:Int)<=30)=decide (l.length<=30):=by rw[decide_eq_decide];omega
 by_cases hlt:i<l.length
 ·have hpi:l[i]? = some l[i]:=gEl hlt
  have hi1:decide ((i:Int)<(l.length:Int))=true:=dcT (Int.ofNat_lt.2 hlt)
  rw[List.drop_eq_getElem_cons hlt,eP] at hst
  by_cases ck:k<=most
  ·have k4:decide ((k:Int)<=(most:Int))=true:=dcT (by omega)
   rw[if_pos ck] at hst
   obtain ⟨Av1,c1',hcs⟩:=(hk i _ hpi).shape
   have hat':=hat i _ hpi
   have hkid:=hk i _ hpi
   rw[hcs] at hat' hkid
   have hAv:=hA (aO hlt)
   subst hAv
   have hat2:=dY hat'
   have hld:h'.load ⟨b,o+i*4,none⟩=some (.string l[i].name):=by
    have:=ky hrom' hat' (j:=0) (v:=.string l[i].name) rfl
    simpa using this
   by_cases cn:200<l[i].name.data.toList.length
   ·have k5:decide ((200:Int)<(l[i].name.data.toList.length:Int))=true:=dcT (by omega)
    rw[if_pos cn] at hst
    simp -dsimp only[go_sem,e1,e2,e5,e6,hi1,k4,aa hP',eQ hlt,hld,k5,hr]
    exact ⟨by unfold gh;rw[<-hst],hx0.trans hx⟩
   ·have k5:decide ((200:Int)<(l[i].name.data.toList.length:Int))=false:=dcF (by omega)
    rw[if_neg cn] at hst
    simp -dsimp only[go_sem,e1,e2,e5,e6,hi1,k4,aa hP',eQ hlt,hld,k5,az (n:=3) hrom' hat2 rfl]
    obtain ⟨_,h2,hs2,rfl,hx2⟩:=BV hmost _ l[i].body (lSs _) 40 h' _ (by omega) hrom' hb' hkid
    refine ⟨_,h2,hs2,?_⟩
    have hle:=lZ most l[i].body 40
    have hwk:IntKind.i64.wrap ((k:Int)+(cG most 40 l[i].body:Int))=((k+cG most 40 l[i].body:Nat):Int):=by rw[IntKind.wrap_i64];omega
    simp -dsimp only[go_sem,e1,e2,e5,e6,hwk,ah hlt hlb]
    exact ⟨l.length - (i+1),by omega,i+1,_,hlt,rfl,by omega,hx.trans hx2,hst,rfl,rfl⟩
  ·have k4:decide ((k:Int)<=(most:Int))=false:=dcF (by omega)
   rw[if_neg ck] at hst
   simp -dsimp only[go_sem,ai,e1,e2,e5,e6,hi1,k4,aa hP',hr]
   exact ⟨by unfold gh;rw[<-hst];simp[ck],hx0.trans hx⟩
 ·have hi0:decide ((i:Int)<(l.length:Int))=false:=dcF (by omega)
  rw[List.drop_eq_nil_of_le (by omega),eP] at hst
  by_cases ck:k<=most
  ·have k4:decide ((k:Int)<=(most:Int))=true:=dcT (by omega)
   simp -dsimp only[go_sem,ai,e1,e2,e5,e6,hi0,k4,aa hP',k30,hr]
   exact ⟨by unfold gh;rw[<-hst];simp[ck],hx0.trans hx⟩
  ·have k4:decide ((k:Int)<=(most:Int))=false:=dcF (by omega)
   simp -dsimp only[go_sem,ai,e1,e2,e5,e6,hi0,k4,aa hP',hr]
   exact ⟨by unfold gh;rw[<-hst];simp[ck],hx0.trans hx⟩
end
abbrev No:Nat->Prop:=fun _=>False
section
variable {r:Ro}
def fx (s:ByteArray):List ByteArray->Nat->Int
 | [],_ => -1
 | x::l,i=>if x.data.toList=s.data.toList then (i:Int) else fx s l (i+1)
theorem dZ (s:ByteArray):∀(l:List ByteArray) (i:Nat),fx s l i=if ae l s<l.length then ((i+ae l s:Nat):Int) else -1
 | [],i=>by simp[fx]
 | x::l,i=>by
   unfold fx
   have hc:ae (x::l) s=if x.data.toList=s.data.toList then 0 else ae l s+1:=by
    unfold ae
    rw[List.findIdx_cons]
    by_cases c:x.data.toList=s.data.toList<;>simp[c]
   by_cases c:x.data.toList=s.data.toList
   ·rw[if_pos c,hc,if_pos c];simp
   ·rw[if_neg c,dZ s l (i+1),hc,if_neg c,List.length_cons]
    by_cases c2:ae l s<l.length
    ·rw[if_pos c2,if_pos (by omega)];congr 1;omega
    ·rw[if_neg c2,if_neg (by omega)]
theorem jd {l:List ar} {Av:Option Addr} {c b o:Nat} {css:Nat->List Value} (R:bd r l Av c b o css) (s:ByteArray) (h:Hp) (hrom:h.rom=r) (hb:h.base<=h.next) :
  ∃v h1,Snd Tryz.prog 19 [.agg #[.slice Av l.length c],.string s] h v h1/\v=.int .i64 (fx s (nms l) 0)/\Ext h h1:=by
 refine aL wf Tryz.func19 rfl rfl (n:=22) rfl (by kernel_rfl) rfl ?_
 intro a hn hg
 have hr:Tryz.f19.results.toList=[.tmp 4]:=rfl
 have g0:=hg 0
 have g1:=hg 1
 clear hg
 simp only[gC0,gC1] at g0 g1
 have hP:=an hb 24 [.slice Av l.length c]
 have hx0:=Ext.new h (ak.cells ⟨[.slice Av l.length c],24,0,0,false⟩)
 have hnl:(nms l).length=l.length:=by simp[nms]
 simp -dsimp only[go_sem,g0]
 generalize h.newH (ak.cells ⟨[.slice Av l.length c],24,0,0,false⟩)=h2 at hP hx0 ⊢
 refine au (n:=22) (by kernel_rfl) (fun m' a' h'=>∃i:Nat,i<=l.length/\m'=l.length - i/\h'=h2/\fx s ((nms l).drop i) i=fx s (nms l) 0 /\
  a'.get 1=.string s/\a'.get 2=.pointer (some ⟨h.next,0,none⟩)/\a'.get 5=.int .i64 i) ?_ l.length _ _ (by simp -dsimp only[go_sem,hn]) ⟨0,lZr _,rfl,rfl,rfl,by simp -dsimp only[go_sem,g1],by simp -dsimp only[go_sem],by simp -dsimp only[go_sem];rfl⟩
 rintro m' a' h' hn' ⟨i,hi,rfl,hh,hst,e1,e2,e5⟩
 rw[hh]
 by_cases hlt:i<l.length
 ·have hpi:l[i]? = some l[i]:=gEl hlt
  have hi1:decide ((i:Int)<(l.length:Int))=true:=dcT (Int.ofNat_lt.2 hlt)
  have hat':=R.hat i _ hpi
  have hAv:=R.hA (aO hlt)
  subst hAv
  have hld:h2.load ⟨b,o+i*4,none⟩=some (.string l[i].name):=by
   have:=ky (hx0.rom.trans hrom) hat' (j:=0) (v:=.string l[i].name) rfl
   simpa using this
  have hdr:(nms l).drop i=l[i].name::(nms l).drop (i+1):=by
   rw[List.drop_eq_getElem_cons (by omega)];simp[nms]
  rw[hdr,fx] at hst
  by_cases c2:l[i].name.data.toList=s.data.toList
  ·rw[if_pos c2] at hst
   simp -dsimp only[go_sem,e1,e2,e5,hi1,eQ hlt,aa hP,hld,dcT c2,hr]
   exact ⟨by rw[<-hst],hx0⟩
  ·rw[if_neg c2] at hst
   simp -dsimp only[go_sem,e1,e2,e5,hi1,eQ hlt,aa hP,hld,dcF c2,ah hlt (lTr R.hb (by decide))]
   exact ⟨l.length - (i+1),by omega,i+1,hlt,rfl,hst,rfl⟩
 ·have hi0:decide ((i:Int)<(l.length:Int))=false:=dcF (by omega)
  rw[List.drop_eq_nil_of_le (by omega),fx] at hst
  simp -dsimp only[go_sem,e1,e2,e5,hi0,aa hP,hr]
  exact ⟨by rw[<-hst],hx0⟩
end
section
variable {r:Ro}
theorem nl (n:Nat):decide (0<(n:Int))=decide (1<=n):=by rw[decide_eq_decide];omega
theorem BX (s:ByteArray) (l:List ByteArray):decide (0<=fx s l 0)=decide (ae l s<l.length):=by
 rw[dZ,decide_eq_decide]
 split<;>omega
def qE (r:Ro) (G:List ar) (Gv:Option Addr) (gc:Nat) (p:ad):Prop:=∀(h:Hp) (cs:List Value),h.rom=r->h.base<=h.next->RoPart r p cs->rK p ->
 ∃v h1,Snd Tryz.prog 79 [.agg #[.slice Gv G.length gc],.agg cs.toArray] h v h1/\v=.bool (ay (nms G) p)/\Ext h h1
theorem tD {G:List ar} {Gv:Option Addr} {gc gb go:Nat} {gcss:Nat->List Value} (R:bd r G Gv gc gb go gcss):∀(n:Nat) (p:ad),SizeOf.sizeOf p<n->qE r G Gv gc p:=by
 intro n
 induction n with
 | zero=>exact fun p hp=>absurd hp (lNz _)
 | succ n ihn =>
 rintro ⟨d,t,l⟩ hn h cs hrom hb hp hft
 have ih:∀(i:Nat) (p:ad),l[i]? = some p->qE r G Gv gc p:=fun i p hp=>ihn p (by
  have:=List.sizeOf_lt_of_mem (mOg hp)
  simp only[ad.mk.sizeOf_spec] at hn
  omega)
 have hnk:∀(i:Nat) (p:ad),l[i]? = some p->rK p:=lY hft.2
 cases hp with
 | mk _ _ _ Av c b o css hc hlb hA hat hk hs =>
 refine aL wf Tryz.func79 rfl rfl (n:=84) rfl (by kernel_rfl) rfl ?_
 intro a hn hg
 have hr:Tryz.f79.results.toList=[.tmp 4]:=rfl
 have g0:=hg 0
 have g1:=hg 1
 clear hg
 simp only[gC0,gC1] at g0 g1
 have hG:=an hb 24 [.slice Gv G.length gc]
 have hxg:=Ext.new h (ak.cells ⟨[.slice Gv G.length gc],24,0,0,false⟩)
 have hbg:=Nat.le_succ_of_le (m:=h.next) hb
 have hP:=an (h:=h.newH (ak.cells ⟨[.slice Gv G.length gc],24,0,0,false⟩)) hbg 48 [.string d,.string t,.slice Av l.length c]
 have hG1:=db hG (ak.cells ⟨[.string d,.string t,.slice Av l.length c],48,0,0,false⟩)
 have hx0:=hxg.trans (Ext.new _ (ak.cells ⟨[.string d,.string t,.slice Av l.length c],48,0,0,false⟩))
 have e:ay (nms G) ⟨d,t,l⟩=(b6 (nms G) l&&aU (nms G) d t l.length):=by rw[ay]
 simp -dsimp only[go_sem,g0,g1,bu]
 simp only[bu] at hP
 generalize (h.newH (ak.cells ⟨[.slice Gv G.length gc],24,0,0,false⟩)).newH (ak.cells ⟨[.string d,.string t,.slice Av l.length c],48,0,0,false⟩)=h2 at hP hG1 hx0 ⊢
 have hb2:h2.base<=h2.next:=by rw[hx0.base];exact lTr hb hx0.next
 refine au (n:=84) (by kernel_rfl) (fun m' a' h'=>∃i:Nat,i<=l.length/\m'=l.length - i/\Ext h2 h'/\b6 (nms G) (l.drop i)=b6 (nms G) l /\
  a'.get 2=.pointer (some ⟨h.next,0,none⟩)/\a'.get 3=.pointer (some ⟨h.next+1,0,none⟩)/\a'.get 5=.int .i64 i) ?_ l.length _ _ (by simp -dsimp only[go_sem,hn]) ⟨0,lZr _,rfl,Ext.refl _,rfl,by simp -dsimp only[go_sem],by simp -dsimp only[go_sem],by simp -dsimp only[go_sem];rfl⟩
 rintro m' a' h' hn' ⟨i,hi,rfl,hx,hst,e2,e3,e5⟩
 have hrom':h'.rom=r:=(hx0.trans hx).rom.trans hrom
 have hb':h'.base<=h'.next:=by rw[hx.base];exact lTr hb2 hx.next
 have hP':=aj hx hP
 have hG':=aj hx hG1
 by_cases hlt:i<l.length
 ·have hpi:l[i]? = some l[i]:=gEl hlt
  have hi1:decide ((i:Int)<(l.length:Int))=true:=dcT (Int.ofNat_lt.2 hlt)
  obtain ⟨Av1,c1',hcs⟩:=(hk i _ hpi).shape
  have hat':=hat i _ hpi
  have hkid:=hk i _ hpi
  rw[hcs] at hat' hkid
  have hAv:=hA (aO hlt)
  subst hAv
  obtain ⟨_,h4,hs4,rfl,hx4⟩:=ih i _ hpi h' _ hrom' hb' hkid (hnk i _ hpi)
  rw[List.drop_eq_getElem_cons hlt,b6] at hst
  simp -dsimp only[go_sem,e2,e3,e5,hi1,aa hP']
  refine aD (n:=84) [[],[],[1],[],[1,2,3],[1,2,3,4],[0,1,2,3,4,5],[0,1,2,3,4,5,6]] (by simp -dsimp only[go_sem,hn']) (by kernel_rfl) ?_
  simp -dsimp only[go_sem,e2,e3,e5,af hG',aa hP',eR hlt,az (n:=3) hrom' hat' rfl,ab R.hs,ab hkid.same]
  refine ⟨_,h4,hs4,?_⟩
  simp -dsimp only[go_sem]
  cases hsm:ay (nms G) l[i] with
  | false =>
    rw[hsm,Bool.false_and] at hst
    simp -dsimp only[go_sem,hr]
    exact ⟨by rw[e,<-hst];rfl,hx0.trans (hx.trans hx4)⟩
  | true =>
    rw[hsm,Bool.true_and] at hst
    simp -dsimp only[go_sem,e2,e3,e5,ah hlt hlb]
    exact ⟨l.length - (i+1),by omega,i+1,hlt,rfl,hx.trans hx4,hst,rfl⟩
 ·have hi0:decide ((i:Int)<(l.length:Int))=false:=dcF (by omega)
  rw[List.drop_eq_nil_of_le (by omega),b6] at hst
  rw[<-hst,Bool.true_and] at e
  simp -dsimp only[go_sem,e2,e3,e5,hi0,aa hP']
  have hx9:=hx0.trans hx
  by_cases c1:d.data.toList=[105,115]
  ·by_cases cn:l.length=0
   ·have kn:decide ((l.length:Int)=0)=true:=by rw[cZ];exact dcT cn
    simp -dsimp only[go_sem,dcT c1,e2,e3,kn,aa hP',hr]
    refine ⟨_,_,uU t hft.1 _,?_⟩
    exact ⟨by rw[e];simp[aU,c1,cn],hx9⟩
   ·have kn:decide ((l.length:Int)=0)=false:=by rw[cZ];exact dcF cn
    simp -dsimp only[go_sem,ai,dcT c1,e2,e3,kn,aa hP',hr]
    exact ⟨by rw[e];simp[aU,c1,cn],hx9⟩
  by_cases c2:d.data.toList=[114,117,108,101]
  ·by_cases cn:l.length=0
   ·have kn:decide ((l.length:Int)=0)=true:=by rw[cZ];exact dcT cn
    simp -dsimp only[go_sem,dcF c1,dcT c2,e2,e3,kn,aa hP',af hG',hr]
    obtain ⟨_,h5,hs5,rfl,hx5⟩:=jd R t h' hrom' hb'
    refine ⟨_,h5,hs5,?_⟩
    simp -dsimp only[go_sem,BX,hr]
    exact ⟨by rw[e];simp[aU,c2,cn],hx9.trans hx5⟩
   ·have kn:decide ((l.length:Int)=0)=false:=by rw[cZ];exact dcF cn
    simp -dsimp only[go_sem,ai,dcF c1,dcT c2,e2,e3,kn,aa hP',hr]
    exact ⟨by rw[e];simp[aU,c2,cn],hx9⟩
  by_cases c3:d.data.toList=[97,110,121]
  ·by_cases cn:l.length=0
   ·have kn:decide ((l.length:Int)=0)=true:=by rw[cZ];exact dcT cn
    simp -dsimp only[go_sem,dcF c1,dcF c2,dcT c3,e2,e3,kn,aa hP',hr]
    exact ⟨by rw[e];simp[aU,c3,cn],hx9⟩
   ·have kn:decide ((l.length:Int)=0)=false:=by rw[cZ];exact dcF cn
    simp -dsimp only[go_sem,ai,dcF c1,dcF c2,dcT c3,e2,e3,kn,aa hP',hr]
    exact ⟨by rw[e];simp[aU,c3,cn],hx9⟩
  by_cases c4:d.data.toList=[110,111,116,104,105,110,103]
  ·by_cases cn:l.length=0
   ·have kn:decide ((l.length:Int)=0)=true:=by rw[cZ];exact dcT cn
    simp -dsimp only[go_sem,dcF c1,dcF c2,dcF c3,dcT c4,e2,e3,kn,aa hP',hr]
    exact ⟨by rw[e];simp[aU,c4,cn],hx9⟩
   ·have kn:decide ((l.length:Int)=0)=false:=by rw[cZ];exact dcF cn
    simp -dsimp only[go_sem,ai,dcF c1,dcF c2,dcF c3,dcT c4,e2,e3,kn,aa hP',hr]
    exact ⟨by rw[e];simp[aU,c4,cn],hx9⟩
  by_cases c5:d.data.toList=[115,101,113]
  ·by_cases cn:1<=l.length
   ·have kn:decide (0<(l.length:Int))=true:=by rw[nl];exact dcT cn
    simp -dsimp only[go_sem,dcF c1,dcF c2,dcF c3,dcF c4,dcT c5,e2,e3,kn,aa hP',hr]
    exact ⟨by rw[e];simp[aU,c5,cn],hx9⟩
   ·have kn:decide (0<(l.length:Int))=false:=by rw[nl];exact dcF cn
    simp -dsimp only[go_sem,ai,dcF c1,dcF c2,dcF c3,dcF c4,dcT c5,e2,e3,kn,aa hP',hr]
    exact ⟨by rw[e];simp[aU,c5,cn],hx9⟩
  by_cases c6:d.data.toList=[111,114]
  ·by_cases cn:1<=l.length
   ·have kn:decide (0<(l.length:Int))=true:=by rw[nl];exact dcT cn
    simp -dsimp only[go_sem,dcF c1,dcF c2,dcF c3,dcF c4,dcF c5,dcT c6,e2,e3,kn,aa hP',hr]
    exact ⟨by rw[e];simp[aU,c6,cn],hx9⟩
   ·have kn:decide (0<(l.length:Int))=false:=by rw[nl];exact dcF cn
    simp -dsimp only[go_sem,ai,dcF c1,dcF c2,dcF c3,dcF c4,dcF c5,dcT c6,e2,e3,kn,aa hP',hr]
    exact ⟨by rw[e];simp[aU,c6,cn],hx9⟩
  by_cases c7:d.data.toList=[109,97,110,121]
  ·by_cases cn:l.length=1
   ·have kn:decide ((l.length:Int)=1)=true:=by rw[fG];exact dcT cn
    simp -dsimp only[go_sem,dcF c1,dcF c2,dcF c3,dcF c4,dcF c5,dcF c6,dcT c7,e2,e3,kn,aa hP',hr]
    exact ⟨by rw[e];simp[aU,c7,cn],hx9⟩
   ·have kn:decide ((l.length:Int)=1)=false:=by rw[fG];exact dcF cn
    simp -dsimp only[go_sem,ai,dcF c1,dcF c2,dcF c3,dcF c4,dcF c5,dcF c6,dcT c7,e2,e3,kn,aa hP',hr]
    exact ⟨by rw[e];simp[aU,c7,cn],hx9⟩
  by_cases c8:d.data.toList=[111,112,116]
  ·by_cases cn:l.length=1
   ·have kn:decide ((l.length:Int)=1)=true:=by rw[fG];exact dcT cn
    simp -dsimp only[go_sem,dcF c1,dcF c2,dcF c3,dcF c4,dcF c5,dcF c6,dcF c7,dcT c8,e2,e3,kn,aa hP',hr]
    exact ⟨by rw[e];simp[aU,c8,cn],hx9⟩
   ·have kn:decide ((l.length:Int)=1)=false:=by rw[fG];exact dcF cn
    simp -dsimp only[go_sem,ai,dcF c1,dcF c2,dcF c3,dcF c4,dcF c5,dcF c6,dcF c7,dcT c8,e2,e3,kn,aa hP',hr]
    exact ⟨by rw[e];simp[aU,c8,cn],hx9⟩
  by_cases c9:d.data.toList=[110,111,116]
  ·by_cases cn:l.length=1
   ·have kn:decide ((l.length:Int)=1)=true:=by rw[fG];exact dcT cn
    simp -dsimp only[go_sem,dcF c1,dcF c2,dcF c3,dcF c4,dcF c5,dcF c6,dcF c7,dcF c8,dcT c9,e2,e3,kn,aa hP',hr]
    exact ⟨by rw[e];simp[aU,c9,cn],hx9⟩
   ·have kn:decide ((l.length:Int)=1)=false:=by rw[fG];exact dcF cn
    simp -dsimp only[go_sem,ai,dcF c1,dcF c2,dcF c3,dcF c4,dcF c5,dcF c6,dcF c7,dcF c8,dcT c9,e2,e3,kn,aa hP',hr]
    exact ⟨by rw[e];simp[aU,c9,cn],hx9⟩
  simp -dsimp only[go_sem,dcF c1,dcF c2,dcF c3,dcF c4,dcF c5,dcF c6,dcF c7,dcF c8,dcF c9,e2,e3,aa hP',hr]
  exact ⟨by rw[e];simp[aU,c1,c2,c3,c4,c5,c6,c7,c8,c9],hx9⟩
end
section
variable {r:Ro}
def lr (nm:List ByteArray):List ar->Nat->Bool
 | [],_=>true
 | x::l,i=>(gg x.name&&(decide (fx x.name nm 0=(i:Int))&&ay nm x.body))&&lr nm l (i+1)
def fc (l:List ar):Bool:=lr (nms l) l 0&&decide (0<l.length)
theorem tE {l:List ar} {Av:Option Addr} {c b o:Nat} {css:Nat->List Value} (R:bd r l Av c b o css) (hft:lp l) (h:Hp) (hrom:h.rom=r) (hb:h.base<=h.next) :
  ∃v h1,Snd Tryz.prog 60 [.agg #[.slice Av l.length c]] h v h1/\v=.bool (fc l)/\Ext h h1:=by
 refine aL wf Tryz.func60 rfl rfl (n:=46) rfl (by kernel_rfl) rfl ?_
 intro a hn hg
 have hr:Tryz.f60.results.toList=[.tmp 2]:=rfl
 have g0:=hg 0
 clear hg
 simp only[gC0,gC1] at g0
 have hP:=an hb 24 [.slice Av l.length c]
 have hx0:=Ext.new h (ak.cells ⟨[.slice Av l.length c],24,0,0,false⟩)
 simp -dsimp only[go_sem,g0]
 generalize h.newH (ak.cells ⟨[.slice Av l.length c],24,0,0,false⟩)=h2 at hP hx0 ⊢
 have hb2:h2.base<=h2.next:=by rw[hx0.base];exact lTr hb hx0.next
 refine au (n:=46) (by kernel_rfl) (fun m' a' h'=>∃i:Nat,i<=l.length/\m'=l.length - i/\Ext h2 h'/\lr (nms l) (l.drop i) i=lr (nms l) l 0 /\
  a'.get 1=.pointer (some ⟨h.next,0,none⟩)/\a'.get 3=.int .i64 i) ?_ l.length _ _ (by simp -dsimp only[go_sem,hn]) ⟨0,lZr _,rfl,Ext.refl _,rfl,by simp -dsimp only[go_sem],by simp -dsimp only[go_sem];rfl⟩
 rintro m' a' h' hn' ⟨i,hi,rfl,hx,hst,e1,e3⟩
 have hrom':h'.rom=r:=(hx0.trans hx).rom.trans hrom
 have hb':h'.base<=h'.next:=by rw[hx.base];exact lTr hb2 hx.next
 have hP':=aj hx hP
 by_cases hlt:i<l.length
 ·have hpi:l[i]? = some l[i]:=gEl hlt
  have hi1:decide ((i:Int)<(l.length:Int))=true:=dcT (Int.ofNat_lt.2 hlt)
  obtain ⟨Av1,c1',hcs⟩:=(R.hk i _ hpi).shape
  have hat':=R.hat i _ hpi
  have hkid:=R.hk i _ hpi
  rw[hcs] at hat' hkid
  have hAv:=R.hA (aO hlt)
  subst hAv
  have hat2:=dY hat'
  have hld:∀{h3:Hp},h3.rom=r->h3.load ⟨b,o+i*4,none⟩=some (.string l[i].name):=by
   intro h3 h3r
   have:=ky h3r hat' (j:=0) (v:=.string l[i].name) rfl
   simpa using this
  rw[List.drop_eq_getElem_cons hlt,lr] at hst
  obtain ⟨_,h4,hs4,rfl,hx4⟩:=jd R l[i].name h' hrom' hb'
  have hrom4:=hx4.rom.trans hrom'
  have hb4:h4.base<=h4.next:=by rw[hx4.base];exact lTr hb' hx4.next
  obtain ⟨_,h5,hs5,rfl,hx5⟩:=tD R _ l[i].body (lSs _) h4 _ hrom4 hb4 hkid (hft i _ hpi).2
  have hP4:=aj hx4 hP'
  have hP5:=aj hx5 hP4
  have hrom5:=hx5.rom.trans hrom4
  have hpl:=tA l[i].name (hft i _ hpi).1 h'
  simp -dsimp only[go_sem,e1,e3,hi1,aa hP']
  refine aD (n:=46) [[],[0],[],[0,1,2],[0,1,2,3],[0,1,2,3,4],[0,1,2,3,4,5],[0,1,2,3,4,5,6],[0,1,2,3,4,5,6,7],[0,1,2,3,4,5,6,7,8],[0,1,2,3,4,5,6,7,8],[0,1,2,3,4,5,6,7,8,10],[0,1,2,3,4,5,6,7,8],[0,1,2,3,4,5,6,7,8,10,11,12],[0,1,2,3,4,5,6,7,8,10,11,12,13],[0,1,2,3,4,5,6,7,8,10,11,12,13,14],[0,1,2,3,4,5,6,7,8,9,10,11,12,13,14,15],[0,1,2,3,4,5,6,7,8],[0,1,2,3,4,5,6,7,8,9,10,11,12,13,14,15,16,17],[0,1,2,3,4,5,6,7,8,9,10,11,12,13,14,15,16,17,18],[0,1,2,3,4,5,6,7,8,9,10,11,12,13,14,15,16,17,18,19],[0,1,2,3,4,5,6,7,8,9,10,11,12,13,14,15,16,17,18,19,20],[0,1,2,3,4,5,6,7,8,9,10,11,12,13,14,15,16,17,18,19,20],[0,1,2,3,4,5,6,7,8,9,10,11,12,13,14,15,16,17,18,19,20,22],[0,1,2,3,4,5,6,7,8,9,10,11,12,13,14,15,16,17,18,19,20],[0,1,2,3,4,5,6,7,8,9,10,11,12,13,14,15,16,17,18,19,20,22,23,24],[0,1,2,3,4,5,6,7,8,9,10,11,12,13,14,15,16,17,18,19,20,22,23,24,25],[0,1,2,3,4,5,6,7,8,9,10,11,12,13,14,15,16,17,18,19,20,22,23,24,25,26],[0,1,2,3,4,5,6,7,8,9,10,11,12,13,14,15,16,17,18,19,20,21,22,23,24,25,26,27],[0,1,2,3,4,5,6,7,8,9,10,11,12,13,14,15,16,17,18,19,20,21,22,23,24,25,26,27,28],[0,1,2,3,4,5,6,7,8,9,10,11,12,13,14,15,16,17,18,19,20,21,22,23,24,25,26,27,28,29]] (by simp -dsimp only[go_sem,hn']) (by kernel_rfl) ?_
  simp -dsimp only[go_sem,e1,e3,aa hP',eQ hlt,hld hrom']
  refine ⟨_,_,hpl,?_⟩
  cases hp1:gg l[i].name with
  | false =>
    rw[hp1,Bool.false_and,Bool.false_and] at hst
    simp -dsimp only[go_sem,ai,e1,e3,aa hP',hr]
    exact ⟨by unfold fc;rw[<-hst];rfl,hx0.trans hx⟩
  | true =>
    rw[hp1,Bool.true_and] at hst
    simp -dsimp only[go_sem,ai,e1,e3,aa hP',af hP',eQ hlt,hld hrom',ab R.hs]
    refine ⟨_,h4,hs4,?_⟩
    by_cases hfd:fx l[i].name (nms l) 0=(i:Int)
    ·rw[dcT hfd,Bool.true_and] at hst
     simp -dsimp only[go_sem,ai,e1,e3,dcT hfd,aa hP4,af hP4,aa hP',af hP',eQ hlt,az (n:=3) hrom4 hat2 rfl,ab R.hs,ab hkid.same]
     refine ⟨_,h5,hs5,?_⟩
     cases hrp:ay (nms l) l[i].body with
     | false =>
       rw[hrp,Bool.false_and] at hst
       simp -dsimp only[go_sem,ai,e1,e3,hr]
       exact ⟨by unfold fc;rw[<-hst];rfl,hx0.trans (hx.trans (hx4.trans hx5))⟩
     | true =>
       rw[hrp,Bool.true_and] at hst
       simp -dsimp only[go_sem,ai,e1,e3,ah hlt (lTr R.hb (by decide))]
       exact ⟨l.length - (i+1),by omega,i+1,hlt,rfl,hx.trans (hx4.trans hx5),hst,rfl⟩
    ·rw[dcF hfd,Bool.false_and,Bool.false_and] at hst
     simp -dsimp only[go_sem,ai,e1,e3,dcF hfd,hr]
     exact ⟨by unfold fc;rw[<-hst];rfl,hx0.trans (hx.trans hx4)⟩
 ·have hi0:decide ((i:Int)<(l.length:Int))=false:=dcF (by omega)
  rw[List.drop_eq_nil_of_le (by omega),lr] at hst
  have hg:decide (0<(l.length:Int))=decide (0<l.length):=by rw[decide_eq_decide];omega
  simp -dsimp only[go_sem,e1,e3,hi0,aa hP',hg,hr]
  exact ⟨by unfold fc;rw[<-hst,Bool.true_and],hx0.trans hx⟩
end
theorem xD (seen rest:List ByteArray) (n:ByteArray):ae (seen++n::rest) n=if ae seen n<seen.length then ae seen n else seen.length:=by
 unfold ae
 rw[List.findIdx_append]
 split
 ·rfl
 ·simp[List.findIdx_cons]
theorem xE (seen rest:List ByteArray) (n:ByteArray):decide (fx n (seen++n::rest) 0=(seen.length:Int)) = !decide (ae seen n<seen.length):=by
 rw[dZ,xD]
 by_cases c:ae seen n<seen.length
 ·rw[if_pos c,if_pos (by rw[List.length_append];omega),dcT c]
  exact dcF (by omega)
 ·rw[if_neg c,if_pos (by rw[List.length_append,List.length_cons];omega),dcF c]
  exact dcT (by omega)
theorem tF:∀(l:List ar) (seen:List ByteArray),lr (seen++nms l) l seen.length=(fw seen (nms l)&&dv (seen++nms l) l)
 | [],seen=>by simp[lr,nms,fw,dv]
 | x::l,seen=>by
   have ih:=tF l (seen++[x.name])
   have e:seen++[x.name]++nms l=seen++nms (x::l):=by simp[nms]
   rw[e,List.length_append,List.length_singleton] at ih
   have hf:=xE seen (nms l) x.name
   have e2:seen++x.name::nms l=seen++nms (x::l):=by simp[nms]
   rw[e2] at hf
   have e3:fw seen (nms (x::l))=(!decide (ae seen x.name<seen.length)&&fw (seen++[x.name]) (nms l)):=by simp[nms,fw]
   rw[lr,dv,ih,hf,e3]
   cases gg x.name<;>cases ay (seen++nms (x::l)) x.body<;>cases decide (ae seen x.name<seen.length)<;>cases fw (seen++[x.name]) (nms l)<;>simp
theorem rL (l:List ar):fc l=co l:=by
 have h:=tF l []
 simp only[List.nil_append,List.length_nil] at h
 have e:decide (0<l.length) = !decide (l.length=0):=by
  cases l<;>simp
 unfold fc co
 rw[h,e]
 cases fw [] (nms l)<;>cases decide (l.length=0)<;>simp
section
variable {r:Ro}
def z8 (r:Ro) (G:List ar) (Gv:Option Addr) (gc eb:Nat) (em:List Bool) (p:ad):Prop:=∀(h:Hp) (cs:List Value),h.rom=r->h.base<=h.next->h.own eb 4 (em.map .bool)->RoPart r p cs->dm (nms G) p ->
 ∃v h1,Snd Tryz.prog 80 [.agg #[.slice Gv G.length gc],.slice (some ⟨eb,0,none⟩) G.length G.length,.agg cs.toArray] h v h1/\v=.bool (cD (emf (nms G) em) p)/\Ext h h1
theorem rM {G:List ar} {Gv:Option Addr} {gc gb go eb:Nat} {gcss:Nat->List Value} (R:bd r G Gv gc gb go gcss) {em:List Bool} (hel:em.length=G.length):∀(n:Nat) (p:ad),SizeOf.sizeOf p<n->z8 r G Gv gc eb em p:=by
 intro n
 induction n with
 | zero=>exact fun p hp=>absurd hp (lNz _)
 | succ n ihn =>
 rintro ⟨d,t,l⟩ hn h cs hrom hb hE hp hnm
 have ih:∀(i:Nat) (p:ad),l[i]? = some p->z8 r G Gv gc eb em p:=fun i p hp=>ihn p (by
  have:=List.sizeOf_lt_of_mem (mOg hp)
  simp only[ad.mk.sizeOf_spec] at hn
  omega)
 have hnk:∀(i:Nat) (p:ad),l[i]? = some p->dm (nms G) p:=eY hnm.2.2
 have hGl:(nms G).length=G.length:=by simp[nms]
 cases hp with
 | mk _ _ _ Av c b o css hc hlb hA hat hk hs =>
 refine aL wf Tryz.func80 rfl rfl (n:=58) rfl (by kernel_rfl) rfl ?_
 intro a hn hg
 have hr:Tryz.f80.results.toList=[.tmp 6]:=rfl
 have g0:=hg 0
 have g1:=hg 1
 have g2:=hg 2
 clear hg
 simp only[gC0,gC1] at g0 g1 g2
 have hG:=an hb 24 [.slice Gv G.length gc]
 have hxg:=Ext.new h (ak.cells ⟨[.slice Gv G.length gc],24,0,0,false⟩)
 have hbg:=Nat.le_succ_of_le (m:=h.next) hb
 have hP:=an (h:=h.newH (ak.cells ⟨[.slice Gv G.length gc],24,0,0,false⟩)) hbg 48 [.string d,.string t,.slice Av l.length c]
 have hG1:=db hG (ak.cells ⟨[.string d,.string t,.slice Av l.length c],48,0,0,false⟩)
 have hx0:=hxg.trans (Ext.new _ (ak.cells ⟨[.string d,.string t,.slice Av l.length c],48,0,0,false⟩))
 simp -dsimp only[go_sem,g0,g1,g2,bu]
 simp only[bu] at hP
 generalize (h.newH (ak.cells ⟨[.slice Gv G.length gc],24,0,0,false⟩)).newH (ak.cells ⟨[.string d,.string t,.slice Av l.length c],48,0,0,false⟩)=h2 at hP hG1 hx0 ⊢
 have hb2:h2.base<=h2.next:=by rw[hx0.base];exact lTr hb hx0.next
 simp -dsimp only[go_sem,aa hP]
 by_cases c1:d.data.toList=[105,115]
 ·simp -dsimp only[go_sem,dcT c1,hr]
  exact ⟨by unfold cD;rw[if_pos c1],hx0⟩
 by_cases c2:d.data.toList=[97,110,121]
 ·simp -dsimp only[go_sem,dcF c1,dcT c2,hr]
  exact ⟨by unfold cD;rw[if_neg c1,if_pos c2],hx0⟩
 by_cases c3:d.data.toList=[114,117,108,101]
 ·have hidx:ae (nms G) t<(nms G).length:=hnm.1 c3
  have hidx2:ae (nms G) t<em.length:=by omega
  have hem:(em.map Value.bool)[ae (nms G) t]? = some (.bool (emf (nms G) em t)):=by
   simp only[List.getElem?_map,emf,List.getD_eq_getElem?_getD,gEl hidx2,Option.map_some,Option.getD_some]
  simp -dsimp only[go_sem,g1,dcF c1,dcF c2,dcT c3,af hG1,aa hP,hr]
  obtain ⟨_,h5,hs5,rfl,hx5⟩:=jd R t h2 (hx0.rom.trans hrom) hb2
  refine ⟨_,h5,hs5,?_⟩
  have hE5:=aj (hx0.trans hx5) hE
  have hfi:fx t (nms G) 0=((ae (nms G) t:Nat):Int):=by rw[dZ,if_pos hidx,Nat.zero_add]
  rw[hGl] at hidx
  simp -dsimp only[go_sem,g1,hfi,bM hidx,aa hE5,hem,hr]
  exact ⟨by unfold cD;rw[if_neg c1,if_neg c2,if_pos c3],hx0.trans hx5⟩
 by_cases c4:d.data.toList=[115,101,113]
 ·have e:cD (emf (nms G) em) ⟨d,t,l⟩=eH (emf (nms G) em) l:=by unfold cD;rw[if_neg c1,if_neg c2,if_neg c3,if_pos c4]
  simp -dsimp only[go_sem,dcF c1,dcF c2,dcF c3,dcT c4,hr]
  refine au (n:=58) (by kernel_rfl) (fun m' a' h'=>∃i:Nat,i<=l.length/\m'=l.length - i/\Ext h2 h'/\a'.get 1=.slice (some ⟨eb,0,none⟩) G.length G.length/\a'.get 3=.pointer (some ⟨h.next,0,none⟩)/\a'.get 5=.pointer (some ⟨h.next+1,0,none⟩)/\a'.get 7=.int .i64 i/\∀(j:Nat) (p:ad),j<i->l[j]? = some p->cD (emf (nms G) em) p=true) ?_ l.length _ _ (by simp -dsimp only[go_sem,hn]) ⟨0,lZr _,rfl,Ext.refl _,by simp -dsimp only[go_sem,g1],by simp -dsimp only[go_sem],by simp -dsimp only[go_sem],by simp -dsimp only[go_sem];rfl,fun j p hj=>absurd hj (lNz _)⟩
  rintro m' a' h' hn' ⟨i,hi,rfl,hx,e1,e3,e5,e7,hall⟩
  have hrom':h'.rom=r:=(hx0.trans hx).rom.trans hrom
  have hb':h'.base<=h'.next:=by rw[hx.base];exact lTr hb2 hx.next
  have hP':=aj hx hP
  have hG':=aj hx hG1
  by_cases hlt:i<l.length
  ·have hpi:l[i]? = some l[i]:=gEl hlt
   have hi1:decide ((i:Int)<(l.length:Int))=true:=dcT (Int.ofNat_lt.2 hlt)
   obtain ⟨Av1,c1',hcs⟩:=(hk i _ hpi).shape
   have hat':=hat i _ hpi
   have hkid:=hk i _ hpi
   rw[hcs] at hat' hkid
   have hAv:=hA (aO hlt)
   subst hAv
   obtain ⟨_,h4,hs4,rfl,hx4⟩:=ih i _ hpi h' _ hrom' hb' (aj (hx0.trans hx) hE) hkid (hnk i _ hpi)
   simp -dsimp only[go_sem,e1,e3,e5,e7,hi1,aa hP']
   refine aD (n:=58) [[],[],[],[2],[],[2,3,4],[2,3,4,5],[0,1,2,3,4,5,6],[0,1,2,3,4,5,6,7]] (by simp -dsimp only[go_sem,hn']) (by kernel_rfl) ?_
   simp -dsimp only[go_sem,e1,e3,e5,e7,af hG',aa hP',eR hlt,az (n:=3) hrom' hat' rfl,ab R.hs,ab hkid.same]
   refine ⟨_,h4,hs4,?_⟩
   simp -dsimp only[go_sem]
   cases hsm:cD (emf (nms G) em) l[i] with
   | false =>
     simp -dsimp only[go_sem,hr]
     refine ⟨?_,hx0.trans (hx.trans hx4)⟩
     rw[e]
     cases hq:eH (emf (nms G) em) l with
     | false=>rfl
     | true=>rw[(fV _ l).1 hq i _ hpi] at hsm;cases hsm
   | true =>
     simp -dsimp only[go_sem,e1,e3,e5,e7,ah hlt hlb]
     refine ⟨l.length - (i+1),by omega,i+1,hlt,rfl,hx.trans hx4,rfl,fun j p hj hp => ?_⟩
     rcases Nat.lt_succ_iff_lt_or_eq.1 hj with h|h
     ·exact hall j p h hp
     ·subst h;rw[hpi] at hp;injection hp with hp;subst hp;exact hsm
  ·have hi0:decide ((i:Int)<(l.length:Int))=false:=dcF (by omega)
   have hall':eH (emf (nms G) em) l=true:=(fV _ l).2 fun j p hp=>hall j p (by have:=(List.getElem?_eq_some_iff.1 hp).1;omega) hp
   simp -dsimp only[go_sem,e5,e7,hi0,aa hP',hr]
   exact ⟨by rw[e,hall'],hx0.trans hx⟩
 by_cases c5:d.data.toList=[111,114]
 ·have e:cD (emf (nms G) em) ⟨d,t,l⟩=eX (emf (nms G) em) l:=by unfold cD;rw[if_neg c1,if_neg c2,if_neg c3,if_neg c4,if_pos c5]
  simp -dsimp only[go_sem,dcF c1,dcF c2,dcF c3,dcF c4,dcT c5,hr]
  refine au (n:=58) (by kernel_rfl) (fun m' a' h'=>∃i:Nat,i<=l.length/\m'=l.length - i/\Ext h2 h'/\a'.get 1=.slice (some ⟨eb,0,none⟩) G.length G.length/\a'.get 3=.pointer (some ⟨h.next,0,none⟩)/\a'.get 5=.pointer (some ⟨h.next+1,0,none⟩)/\a'.get 8=.int .i64 i/\∀(j:Nat) (p:ad),j<i->l[j]? = some p->cD (emf (nms G) em) p=false) ?_ l.length _ _ (by simp -dsimp only[go_sem,hn]) ⟨0,lZr _,rfl,Ext.refl _,by simp -dsimp only[go_sem,g1],by simp -dsimp only[go_sem],by simp -dsimp only[go_sem],by simp -dsimp only[go_sem];rfl,fun j p hj=>absurd hj (lNz _)⟩
  rintro m' a' h' hn' ⟨i,hi,rfl,hx,e1,e3,e5,e7,hall⟩
  have hrom':h'.rom=r:=(hx0.trans hx).rom.trans hrom
  have hb':h'.base<=h'.next:=by rw[hx.base];exact lTr hb2 hx.next
  have hP':=aj hx hP
  have hG':=aj hx hG1
  by_cases hlt:i<l.length
  ·have hpi:l[i]? = some l[i]:=gEl hlt
   have hi1:decide ((i:Int)<(l.length:Int))=true:=dcT (Int.ofNat_lt.2 hlt)
   obtain ⟨Av1,c1',hcs⟩:=(hk i _ hpi).shape
   have hat':=hat i _ hpi
   have hkid:=hk i _ hpi
   rw[hcs] at hat' hkid
   have hAv:=hA (aO hlt)
   subst hAv
   obtain ⟨_,h4,hs4,rfl,hx4⟩:=ih i _ hpi h' _ hrom' hb' (aj (hx0.trans hx) hE) hkid (hnk i _ hpi)
   simp -dsimp only[go_sem,e1,e3,e5,e7,hi1,aa hP']
   refine aD (n:=58) [[],[],[],[2],[],[2,3,4],[2,3,4,5],[0,1,2,3,4,5,6]] (by simp -dsimp only[go_sem,hn']) (by kernel_rfl) ?_
   simp -dsimp only[go_sem,e1,e3,e5,e7,af hG',aa hP',eR hlt,az (n:=3) hrom' hat' rfl,ab R.hs,ab hkid.same]
   refine ⟨_,h4,hs4,?_⟩
   simp -dsimp only[go_sem]
   cases hsm:cD (emf (nms G) em) l[i] with
   | true =>
     simp -dsimp only[go_sem,hr]
     refine ⟨?_,hx0.trans (hx.trans hx4)⟩
     rw[e]
     cases hq:eX (emf (nms G) em) l with
     | true=>rfl
     | false=>rw[(fW _ l).1 hq i _ hpi] at hsm;cases hsm
   | false =>
     simp -dsimp only[go_sem,e1,e3,e5,e7,ah hlt hlb]
     refine ⟨l.length - (i+1),by omega,i+1,hlt,rfl,hx.trans hx4,rfl,fun j p hj hp => ?_⟩
     rcases Nat.lt_succ_iff_lt_or_eq.1 hj with h|h
     ·exact hall j p h hp
     ·subst h;rw[hpi] at hp;injection hp with hp;subst hp;exact hsm
  ·have hi0:decide ((i:Int)<(l.length:Int))=false:=dcF (by omega)
   have hall':eX (emf (nms G) em) l=false:=(fW _ l).2 fun j p hp=>hall j p (by have:=(List.getElem?_eq_some_iff.1 hp).1;omega) hp
   simp -dsimp only[go_sem,e5,e7,hi0,aa hP',hr]
   exact ⟨by rw[e,hall'],hx0.trans hx⟩
 simp -dsimp only[go_sem,dcF c1,dcF c2,dcF c3,dcF c4,dcF c5,hr]
 exact ⟨by unfold cD;rw[if_neg c1,if_neg c2,if_neg c3,if_neg c4,if_neg c5],hx0⟩
end
section
def D4 (s:ByteArray):ad:=⟨⟨#[105,116,101,109]⟩,s,[]⟩
def D5 (t:ByteArray) (l:List ad):ad:=⟨⟨#[114,117,108,101]⟩,t,l⟩
def D6 (l:List ad):ad:=⟨⟨#[109,97,110,121]⟩,⟨#[]⟩,l⟩
inductive lu
 | part (p:ad) (q:Nat)
 | seq (l:List ad) (q:Nat) (acc:List ad)
 | alt (l:List ad) (q:Nat)
 | many (p:ad) (q:Nat) (acc:List ad)
abbrev dh:=Option (List ad×Nat)×Nat×Nat
def eS (G:List ar) (t:ByteArray):ad:=match G[ae (nms G) t]? with
 | some x=>x.body
 | none=>⟨⟨#[]⟩,⟨#[]⟩,[]⟩
def D7 (items:List ByteArray) (w:Option ByteArray) (q:Nat):dh:=match items[q]? with
 | some s=>if DY w s=true then (some ([D4 s],q+1),1,q) else (none,1,q)
 | none=>(none,1,q)
def Ag (o:dh):dh:=(o.1,o.2.1+1,o.2.2)
def Ah (n f:Nat) (o:dh):dh:=(o.1,n+o.2.1,max f o.2.2)
def D8 (t:ByteArray) (o:dh):dh:=(match o.1 with
 | some (ks,e)=>some ([D5 t ks],e)
 | none=>none,o.2.1+1,o.2.2)
def E3 (q:Nat) (o:dh):dh:=(match o.1 with
 | some x=>some x
 | none=>some ([],q),o.2.1+1,o.2.2)
def E4 (q:Nat) (o:dh):dh:=(match o.1 with
 | some _=>none
 | none=>some ([],q),o.2.1+1,o.2.2)
def Do (rc:lu->Option dh) (l acc:List ad) (o:dh):Option dh:=match o.1 with
 | none=>some (none,o.2.1,o.2.2)
 | some (ks,e)=>(rc (.seq l e (acc++ks))).map (Ah o.2.1 o.2.2)
def E5 (rc:lu->Option dh) (l:List ad) (q:Nat) (o:dh):Option dh:=match o.1 with
 | some x=>some (some x,o.2.1,o.2.2)
 | none=>(rc (.alt l q)).map (Ah o.2.1 o.2.2)
def D9 (rc:lu->Option dh) (x:ad) (q:Nat) (acc:List ad) (o:dh):Option dh:=match o.1 with
 | none=>some (some ([D6 acc],q),o.2.1,o.2.2)
 | some (ks,e)=>(rc (.many x e (acc++ks))).map (Ah o.2.1 o.2.2)
def head1 (rc:lu->Option dh) (f:ad->lu) (l:List ad) (g:dh->dh):Option dh:=match l with
 | x::_=>(rc (f x)).map g
 | []=>none
def Ea (G:List ar) (items:List ByteArray) (rc:lu->Option dh) (d t:ByteArray) (l:List ad) (q:Nat):Option dh :=
 if d.data.toList=[105,115] then some (D7 items (some t) q)
 else if d.data.toList=[97,110,121] then some (D7 items none q)
 else if d.data.toList=[114,117,108,101] then (rc (.part (eS G t) q)).map (D8 t)
 else if d.data.toList=[115,101,113] then (rc (.seq l q [])).map Ag
 else if d.data.toList=[111,114] then (rc (.alt l q)).map Ag
 else if d.data.toList=[109,97,110,121] then head1 rc (fun x=>.many x q []) l Ag
 else if d.data.toList=[111,112,116] then head1 rc (fun x=>.part x q) l (E3 q)
 else if d.data.toList=[110,111,116] then head1 rc (fun x=>.part x q) l (E4 q)
 else some (some ([],q),1,0)
def Eb (G:List ar) (items:List ByteArray) (rc:lu->Option dh):lu->Option dh
 | .part ⟨d,t,l⟩ q=>Ea G items rc d t l q
 | .seq [] q acc=>some (some (acc,q),0,0)
 | .seq (x::l) q acc=>(rc (.part x q)).bind (Do rc l acc)
 | .alt [] q=>some (none,0,0)
 | .alt (x::l) q=>(rc (.part x q)).bind (E5 rc l q)
 | .many x q acc=>(rc (.part x q)).bind (D9 rc x q acc)
def run (G:List ar) (items:List ByteArray):Nat->lu->Option dh
 | 0,_=>none
 | k+1,t=>Eb G items (run G items k) t
def Le (rc rc':lu->Option dh):Prop:=∀t o,rc t=some o->rc' t=some o
variable {G:List ar} {items:List ByteArray} {rc rc':lu->Option dh}
theorem Le.map (h:Le rc rc') {t:lu} {f:dh->dh} {o:dh} (k:(rc t).map f=some o):(rc' t).map f=some o:=by
 rw[Option.map_eq_some_iff] at k ⊢
 obtain ⟨x,h1,h2⟩:=k
 exact ⟨x,h t x h1,h2⟩
theorem Le.head1 (h:Le rc rc') {f:ad->lu} {l:List ad} {g:dh->dh} {o:dh} (k:head1 rc f l g=some o):head1 rc' f l g=some o:=by
 cases l with
 | nil=>cases k
 | cons x l=>exact h.map k
theorem Le.bind (h:Le rc rc') {t:lu} {f f':dh->Option dh} (hf:∀x o,f x=some o->f' x=some o) {o:dh} (k:(rc t).bind f=some o):(rc' t).bind f'=some o:=by
 rw[Option.bind_eq_some_iff] at k ⊢
 obtain ⟨x,h1,h2⟩:=k
 exact ⟨x,h t x h1,hf x o h2⟩
end
section
variable {r:Ro}
theorem rO {l:List ar} {Av:Option Addr} {c b o gp eb:Nat} {css:Nat->List Value} (R:bd r l Av c b o css) (hnm:∀(i:Nat) (x:ar),l[i]? = some x->dm (nms l) x.body)
  {a:Ev.A} {h:Hp} {em:List Bool} {Q:Ex->Ev.A->Hp->Prop} (hn:a.n=37) (hrom:h.rom=r) (hb:h.base<=h.next) (hP:h.own gp 24 [.slice Av l.length c]) (hE:h.own eb 4 (em.map .bool)) (hel:em.length=l.length)
  (g1:a.get 1=.pointer (some ⟨gp,0,none⟩)) (g3:a.get 3=.slice (some ⟨eb,0,none⟩) l.length l.length) (g4:a.get 4=.bool false) (g5:a.get 5=.int .i64 0)
  (hq:∀a1 h1 em1 ag,a1.n=37->ExtS (aR eb) h h1->h1.own eb 4 (em1.map .bool)->em1.length=l.length->eu (nms l) (l.map (·.body)) 0 em=em1->a1.get 1=.pointer (some ⟨gp,0,none⟩)->a1.get 3=.slice (some ⟨eb,0,none⟩) l.length l.length->a1.get 4=.bool ag->(if ag=true then cf em1<cf em else em1=em)->Q (.exit 2) a1 h1) :
  Th Tryz.prog (aw Tryz.f61 [1,1,0,1,0,0,1,0,1,1,0]) a h Q ⟨⟩ ⟨⟩:=by
 simp only[aw,nav,Tryz.f61]
 have hne:gp≠eb:=by
  intro e;have:=hP.2.2;rw[e,hE.2.2] at this;simp at this
 refine au (n:=37) (by kernel_rfl) (fun m' a' h'=>∃(i:Nat) (em':List Bool) (ag:Bool),i<=l.length/\m'=l.length - i/\ExtS (aR eb) h h'/\h'.own eb 4 (em'.map .bool)/\em'.length=l.length/\eu (nms l) ((l.drop i).map (·.body)) i em'=eu (nms l) (l.map (·.body)) 0 em/\(if ag=true then cf em'<cf em else em'=em) /\
  a'.get 1=.pointer (some ⟨gp,0,none⟩)/\a'.get 3=.slice (some ⟨eb,0,none⟩) l.length l.length/\a'.get 4=.bool ag/\a'.get 5=.int .i64 i) ?_ l.length _ _ hn ⟨0,em,false,lZr _,rfl,(Ext.refl _).toS,hE,hel,by rw[List.drop_zero],rfl,g1,g3,g4,g5⟩
 rintro m' a' h' hn' ⟨i,em',ag,hi,rfl,hx,hE',hel',hps,hag,e1,e3,e4,e5⟩
 have hrom':h'.rom=r:=bG hx hrom
 have hb':h'.base<=h'.next:=de hx hb
 have hP':=aJ hx hP hne
 by_cases hlt:i<l.length
 ·have hpi:l[i]? = some l[i]:=gEl hlt
  have hi1:decide ((i:Int)<(l.length:Int))=true:=dcT (Int.ofNat_lt.2 hlt)
  obtain ⟨Av1,c1',hcs⟩:=(R.hk i _ hpi).shape
  have hat':=R.hat i _ hpi
  have hkid:=R.hk i _ hpi
  rw[hcs] at hat' hkid
  have hat2:=dY hat'
  have hAv:=R.hA (aO hlt)
  subst hAv
  have hil:i<em'.length:=by rw[hel'];exact hlt
  have hdr:(l.drop i).map (·.body)=l[i].body::(l.drop (i+1)).map (·.body):=by
   rw[List.drop_eq_getElem_cons hlt,List.map_cons]
  rw[hdr,eu] at hps
  have hget:em'.getD i false=em'[i]:=by simp[List.getD,gEl hil]
  have hmi:(em'.map Value.bool)[i]? = some (.bool em'[i]):=by simp[gEl hil]
  rw[hget] at hps
  simp -dsimp only[go_sem,e1,e3,e4,e5,hi1]
  refine aD (n:=37) [[],[],[0,1],[0,1,2],[0,1,2,3],[0,1,2,3,4],[0,1,2,3,4,5],[0,1,2,3,4,5],[0,1,2,3,4,5],[0,1,2,3,4,5,8],[0,1,2,3,4,5],[0,1,2,3,4,5,8,9,10],[0,1,2,3,4,5,8,9,10,11],[0,1,2,3,4,5,8,9,10,11,12],[0,1,2,3,4,5,6,7,8,9,10,11,12,13],[0,1,2,3,4,5,6,7,8,9,10,11,12,13,14]] (by simp -dsimp only[go_sem,hn']) (by kernel_rfl) ?_
  cases hei:em'[i] with
  | true =>
    rw[hei] at hmi hps
    simp -dsimp only[go_sem,ai,e1,e3,e4,e5,aa hE',bM hlt,hmi,ah hlt (lTr R.hb (by decide))]
    rw[if_neg (by simp)] at hps
    exact ⟨l.length - (i+1),by omega,i+1,em',ag,hlt,rfl,hx,hE',hel',hps,hag,rfl,rfl⟩
  | false =>
    rw[hei] at hmi hps
    obtain ⟨_,h4,hs4,rfl,hx4⟩:=rM R (em:=em') (eb:=eb) hel' _ l[i].body (lSs _) h' _ hrom' hb' hE' hkid (hnm i _ hpi)
    simp -dsimp only[go_sem,ai,e1,e3,e4,e5,aa hE',aa hP',af hP',bM hlt,eQ hlt,hmi,az (n:=3) hrom' hat2 rfl,ab R.hs,ab hkid.same]
    refine ⟨_,h4,hs4,?_⟩
    have hE4:=aj hx4 hE'
    have hx5:ExtS (aR eb) h h4:=hx.trans hx4.toS
    simp -dsimp only[go_sem,ai]
    cases hm:cD (emf (nms l) em') l[i].body with
    | true =>
      have hsto:=aE hE4 (o:=i) (vs:=[.bool true]) rfl (dP hil) (by simp)
      simp -dsimp only[go_sem,e1,e3,e4,e5,bM hlt,hsto,ah hlt (lTr R.hb (by decide))]
      rw[hm,if_pos (by simp)] at hps
      refine ⟨l.length - (i+1),by omega,i+1,_,true,hlt,rfl,hx5.put (.inr rfl) _,av hE4 _,by simp[hel'],hps,?_,rfl,rfl⟩
      rw[if_pos rfl]
      have h1:cf (em'.set i true)<cf em':=rJ (by rw[gEl hil,hei])
      cases ag with
      | true=>exact Nat.lt_trans h1 hag
      | false=>simp at hag;rw[hag] at h1;rw[hag];exact h1
    | false =>
      simp -dsimp only[go_sem,e1,e3,e4,e5,ah hlt (lTr R.hb (by decide))]
      rw[hm,if_neg (by simp)] at hps
      exact ⟨l.length - (i+1),by omega,i+1,em',ag,hlt,rfl,hx5,hE4,hel',hps,hag,rfl,rfl⟩
 ·have hi0:decide ((i:Int)<(l.length:Int))=false:=dcF (by omega)
  simp -dsimp only[go_sem,e3,e5,hi0]
  refine hq _ _ em' ag ?_ hx hE' hel' ?_ ?_ ?_ ?_ hag
  ·simp -dsimp only[go_sem,hn']
  ·rw[<-hps,List.drop_eq_nil_of_le (by omega)];rfl
  ·simp -dsimp only[go_sem,e1]
  ·simp -dsimp only[go_sem,e3]
  ·simp -dsimp only[go_sem,e4]
theorem xH {l:List ar} {Av:Option Addr} {c b o:Nat} {css:Nat->List Value} (R:bd r l Av c b o css) (hnm:∀(i:Nat) (x:ar),l[i]? = some x->dm (nms l) x.body) (h:Hp) (hrom:h.rom=r) (hb:h.base<=h.next) :
  ∃v h1,Snd Tryz.prog 61 [.agg #[.slice Av l.length c]] h v h1/\Ext h h1/\∃eb em,v=.slice (some ⟨eb,0,none⟩) l.length l.length/\h.next<=eb/\h1.own eb 4 (em.map .bool)/\em.length=l.length/\Found l em:=by
 refine aL wf Tryz.func61 rfl rfl (n:=37) rfl (by kernel_rfl) rfl ?_
 intro a hn hg
 have hr:Tryz.f61.results.toList=[.tmp 2]:=rfl
 have g0:=hg 0
 clear hg
 simp only[gC0,gC1] at g0
 have hP:=an hb 24 [.slice Av l.length c]
 have hx0:=Ext.new h (ak.cells ⟨[.slice Av l.length c],24,0,0,false⟩)
 have hb1:=Nat.le_succ_of_le (m:=h.next) hb
 have hE:=an (h:=h.newH (ak.cells ⟨[.slice Av l.length c],24,0,0,false⟩)) hb1 4 (aC [.bool false] l.length)
 have hP1:=db hP (ak.cells { c:=aC [.bool false] l.length,e:=4,fam:=0,base:=0,grown:=false })
 have hx1:=hx0.trans (Ext.new _ (ak.cells { c:=aC [.bool false] l.length,e:=4,fam:=0,base:=0,grown:=false }))
 simp -dsimp only[go_sem,g0,bu,aa hP,jS l.length l.length (lRf _) R.hb]
 simp only[bu] at hE hx1
 rw[cl] at hE hx1 hP1 ⊢
 generalize (h.newH (ak.cells ⟨[.slice Av l.length c],24,0,0,false⟩)).newH (ak.cells { c:=(List.replicate l.length false).map Value.bool,e:=4,fam:=0,base:=0,grown:=false })=h2 at hE hx1 hP1 ⊢
 refine au (n:=37) (by kernel_rfl) (fun m' a' h'=>∃(em:List Bool) (ag:Bool),m'=2*cf em+(if ag=true then 1 else 0)/\em.length=l.length/\(∃k,em=ll (eu (nms l) (l.map (·.body)) 0) k (List.replicate l.length false))/\(ag=false->eu (nms l) (l.map (·.body)) 0 em=em)/\Ext h h'/\h'.own (h.next+1) 4 (em.map .bool)/\h'.own h.next 24 [.slice Av l.length c] /\
  a'.get 1=.pointer (some ⟨h.next,0,none⟩)/\a'.get 3=.slice (some ⟨h.next+1,0,none⟩) l.length l.length/\a'.get 4=.bool ag) ?_ (2*cf (List.replicate l.length false)+1) _ _ (by simp -dsimp only[go_sem,hn]) ⟨_,true,rfl,by simp,⟨0,rfl⟩,fun e=>(by cases e),hx1,hE,hP1,by simp -dsimp only[go_sem],by simp -dsimp only[go_sem],by simp -dsimp only[go_sem]⟩
 rintro m' a' h' hn' ⟨em,ag,rfl,hel,⟨k,hk⟩,hfix,hx,hE',hP',e1,e3,e4⟩
 have hrom':h'.rom=r:=hx.rom.trans hrom
 have hb':h'.base<=h'.next:=by rw[hx.base];exact lTr hb hx.next
 cases ag with
 | false =>
   simp -dsimp only[go_sem,e3,e4,hr]
   exact ⟨hx,h.next+1,em,rfl,by omega,hE',hel,⟨k,hk⟩,hfix rfl⟩
 | true =>
   simp -dsimp only[go_sem,e1,e3,e4]
   refine rO R hnm (em:=em) (eb:=h.next+1) (gp:=h.next) (by simp -dsimp only[go_sem,hn']) hrom' hb' hP' hE' hel (by simp -dsimp only[go_sem,e1]) (by simp -dsimp only[go_sem,e3]) (by simp -dsimp only[go_sem]) (by simp -dsimp only[go_sem]) (fun a1 h1 em1 ag hn1 hx1 hE1 hel1 hp f1 f3 f4 hag => ?_)
   have hxx:Ext h h1:=(hx.toS.trans hx1).ext (fun b hb hs=>by
    have:b=h.next+1:=hs
    omega)
   simp -dsimp only[go_sem]
   refine ⟨2*cf em1+(if ag=true then 1 else 0),?_,em1,ag,rfl,hel1,⟨k+1,by rw[ll,<-hk];exact hp.symm⟩,?_,hxx,hE1,aJ hx1 hP' (by show h.next≠h.next+1;omega),f1,f3,f4⟩
   ·cases ag with
    | true=>simp at hag ⊢;omega
    | false=>simp at hag ⊢;rw[hag];omega
   ·intro e
    subst e
    simp at hag
    rw[hag] at hp ⊢
    exact hp
end
section
variable {r:Ro}
theorem qG {nm:List ByteArray} {d t:ByteArray} {n:Nat} (h:aU nm d t n=true) (h1:¬d.data.toList=[115,101,113]) (h2:¬d.data.toList=[111,114]) (h3:¬d.data.toList=[109,97,110,121]) (h4:¬d.data.toList=[111,112,116]) (h5:¬d.data.toList=[110,111,116]):n=0:=by
 unfold aU at h
 by_cases c1:d.data.toList=[105,115]
 ·rw[if_pos c1,Bool.and_eq_true] at h;exact dcO h.1
 rw[if_neg c1] at h
 by_cases c2:d.data.toList=[114,117,108,101]
 ·rw[if_pos c2,Bool.and_eq_true] at h;exact dcO h.1
 rw[if_neg c2] at h
 split at h
 ·cases h
 split at h
 ·exact dcO h
 rw[if_neg (by rintro (c|c);exact h1 c;exact h2 c),if_neg (by rintro (c|c|c);exact h3 c;exact h4 c;exact h5 c)] at h
 cases h
theorem ph {nm:List ByteArray} {d t:ByteArray} {n:Nat} (h:aU nm d t n=true) (hd:d.data.toList=[114,117,108,101]):n=0 :=
 qG h (by rw[hd];decide) (by rw[hd];decide) (by rw[hd];decide) (by rw[hd];decide) (by rw[hd];decide)
theorem ec {nm:List ByteArray}:∀{l:List ad},b6 nm l=true->∀(i:Nat) (p:ad),l[i]? = some p->ay nm p=true
 | y::l,h,i,x,hx=>by
   rw[b6,Bool.and_eq_true] at h
   cases i with
   | zero=>simp at hx;subst hx;exact h.1
   | succ i=>exact ec h.2 i x (by simpa using hx)
def Cx (r:Ro) (G:List ar) (Gv:Option Addr) (gc eb tb:Nat) (em:List Bool) (p:ad):Prop:=∀(h:Hp) (cs:List Value) (bs:List Bool),h.rom=r->h.base<=h.next->h.own eb 4 (em.map .bool)->RoPart r p cs->ay (nms G) p=true ->
 h.own tb 4 (bs.map .bool)->bs.length=G.length ->
 ∃v h1,Snd Tryz.prog 62 [.agg #[.slice Gv G.length gc],.slice (some ⟨eb,0,none⟩) G.length G.length,.agg cs.toArray,.slice (some ⟨tb,0,none⟩) G.length G.length] h v h1/\v=.tuple #[]/\ExtS (aR tb) h h1/\h1.own tb 4 ((du (emf (nms G) em) (ae (nms G)) p bs).map .bool)
theorem Dp {G:List ar} {Gv:Option Addr} {gc gb go eb tb:Nat} {gcss:Nat->List Value} (R:bd r G Gv gc gb go gcss) {em:List Bool} (hel:em.length=G.length) (het:eb≠tb):∀(n:Nat) (p:ad),SizeOf.sizeOf p<n->Cx r G Gv gc eb tb em p:=by
 intro n
 induction n with
 | zero=>exact fun p hp=>absurd hp (lNz _)
 | succ n ihn =>
 rintro ⟨d,t,l⟩ hn h cs bs hrom hb hE hp hrp hT hbl
 have ih:∀(i:Nat) (p:ad),l[i]? = some p->Cx r G Gv gc eb tb em p:=fun i p hp=>ihn p (by
  have:=List.sizeOf_lt_of_mem (mOg hp)
  simp only[ad.mk.sizeOf_spec] at hn
  omega)
 have hrp0:=hrp
 rw[ay,Bool.and_eq_true] at hrp
 obtain ⟨hrl,hko⟩:=hrp
 have hnk:∀(i:Nat) (p:ad),l[i]? = some p->ay (nms G) p=true:=ec hrl
 have hGl:(nms G).length=G.length:=by simp[nms]
 cases hp with
 | mk _ _ _ Av c b o css hc hlb hA hat hk hs =>
 refine aL wf Tryz.func62 rfl rfl (n:=68) rfl (by kernel_rfl) rfl ?_
 intro a hn hg
 have hr:Tryz.f62.results.toList=[]:=rfl
 have g0:=hg 0
 have g1:=hg 1
 have g2:=hg 2
 have g3:=hg 3
 clear hg
 simp only[gC0,gC1] at g0 g1 g2 g3
 have hG:=an hb 24 [.slice Gv G.length gc]
 have hxg:=Ext.new h (ak.cells ⟨[.slice Gv G.length gc],24,0,0,false⟩)
 have hbg:=Nat.le_succ_of_le (m:=h.next) hb
 have hP:=an (h:=h.newH (ak.cells ⟨[.slice Gv G.length gc],24,0,0,false⟩)) hbg 48 [.string d,.string t,.slice Av l.length c]
 have hG1:=db hG (ak.cells ⟨[.string d,.string t,.slice Av l.length c],48,0,0,false⟩)
 have hx0:=hxg.trans (Ext.new _ (ak.cells ⟨[.string d,.string t,.slice Av l.length c],48,0,0,false⟩))
 simp -dsimp only[go_sem,g0,g1,g2,g3,bu]
 simp only[bu] at hP
 generalize (h.newH (ak.cells ⟨[.slice Gv G.length gc],24,0,0,false⟩)).newH (ak.cells ⟨[.string d,.string t,.slice Av l.length c],48,0,0,false⟩)=h2 at hP hG1 hx0 ⊢
 have hb2:h2.base<=h2.next:=by rw[hx0.base];exact lTr hb hx0.next
 have hT2:=aj hx0 hT
 have hE2:=aj hx0 hE
 have htn:tb<h.next:=hT.2.1
 have hpt:h.next≠tb:=Nat.ne_of_gt htn
 have hpt1:h.next+1≠tb:=by omega
 simp -dsimp only[go_sem,aa hP]
 have estart:∀sq:Bool,l=[]->bf (emf (nms G) em) (ae (nms G)) sq l bs=bs:=by
  intro sq e;subst e;rw[bf]
 by_cases c1:d.data.toList=[114,117,108,101]
 ·have hidx:ae (nms G) t<(nms G).length:=fN hko c1
  have hl0:l=[]:=List.length_eq_zero_iff.1 (ph hko c1)
  obtain ⟨_,h5,hs5,rfl,hx5⟩:=jd R t h2 (hx0.rom.trans hrom) hb2
  have hfi:fx t (nms G) 0=((ae (nms G) t:Nat):Int):=by rw[dZ,if_pos hidx,Nat.zero_add]
  rw[hGl] at hidx
  have hsto:=aE (aj hx5 hT2) (o:=ae (nms G) t) (vs:=[.bool true]) rfl (dP (by rw[hbl];exact hidx)) (by simp)
  simp -dsimp only[go_sem,g3,dcT c1,aa hP,af hG1,hr]
  refine ⟨_,h5,hs5,?_⟩
  simp -dsimp only[go_sem,g3,hfi,bM hidx,hsto,hr]
  refine ⟨((hx0.trans hx5).toS (S:=aR tb)).put (.inr rfl) _,?_⟩
  have e:du (emf (nms G) em) (ae (nms G)) ⟨d,t,l⟩ bs=bs.set (ae (nms G) t) true:=by
   unfold du
   rw[if_pos c1]
   subst hl0
   rw[bf]
  rw[e]
  exact av (aj hx5 hT2) _
 have estart2:∀sq:Bool,decide (d.data.toList=[115,101,113])=sq->du (emf (nms G) em) (ae (nms G)) ⟨d,t,l⟩ bs=bf (emf (nms G) em) (ae (nms G)) sq l bs:=by
  intro sq e;unfold du;rw[if_neg c1,e]
 by_cases c2:d.data.toList=[115,101,113]
 ·simp -dsimp only[go_sem,dcF c1,dcT c2,hr]
  refine au (n:=68) (by kernel_rfl) (fun m' a' h'=>∃(i:Nat) (bs':List Bool),i<=l.length/\m'=l.length - i/\ExtS (aR tb) h2 h'/\h'.own tb 4 (bs'.map .bool)/\bs'.length=G.length/\bf (emf (nms G) em) (ae (nms G)) true (l.drop i) bs'=bf (emf (nms G) em) (ae (nms G)) true l bs /\
   a'.get 1=.slice (some ⟨eb,0,none⟩) G.length G.length/\a'.get 3=.slice (some ⟨tb,0,none⟩) G.length G.length/\a'.get 4=.pointer (some ⟨h.next,0,none⟩)/\a'.get 6=.pointer (some ⟨h.next+1,0,none⟩)/\a'.get 8=.int .i64 i) ?_ l.length _ _ (by simp -dsimp only[go_sem,hn]) ⟨0,bs,lZr _,rfl,(Ext.refl _).toS,hT2,hbl,by rw[List.drop_zero],by simp -dsimp only[go_sem,g1],by simp -dsimp only[go_sem,g3],by simp -dsimp only[go_sem],by simp -dsimp only[go_sem],by simp -dsimp only[go_sem];rfl⟩
  rintro m' a' h' hn' ⟨i,bs',hi,rfl,hx,hT',hbl',hst,e1,e3,e4,e6,e8⟩
  have hrom':h'.rom=r:=bG hx (hx0.rom.trans hrom)
  have hb':h'.base<=h'.next:=de hx hb2
  have hP':=aJ hx hP hpt1
  have hG':=aJ hx hG1 hpt
  have hE':=aJ hx hE2 het
  by_cases hlt:i<l.length
  ·have hpi:l[i]? = some l[i]:=gEl hlt
   have hi1:decide ((i:Int)<(l.length:Int))=true:=dcT (Int.ofNat_lt.2 hlt)
   obtain ⟨Av1,c1',hcs⟩:=(hk i _ hpi).shape
   have hat':=hat i _ hpi
   have hkid:=hk i _ hpi
   rw[hcs] at hat' hkid
   have hAv:=hA (aO hlt)
   subst hAv
   obtain ⟨_,h4,hs4,rfl,hx4,hT4⟩:=ih i _ hpi h' _ bs' hrom' hb' hE' hkid (hnk i _ hpi) hT' hbl'
   simp -dsimp only[go_sem,e1,e3,e4,e6,e8,hi1,aa hP']
   refine aD (n:=68) [[],[],[],[2],[],[2,3,4],[2,3,4,5],[],[0,1,2,3,4,5,6,7]] (by simp -dsimp only[go_sem,hn']) (by kernel_rfl) ?_
   simp -dsimp only[go_sem,e1,e3,e4,e6,e8,af hG',aa hP',af hP',eR hlt,az (n:=3) hrom' hat' rfl,ab R.hs,ab hkid.same]
   refine ⟨_,h4,hs4,?_⟩
   rw[List.drop_eq_getElem_cons hlt,bf] at hst
   have hx5:ExtS (aR tb) h2 h4:=hx.trans hx4
   have hP4:=aJ hx4 hP' hpt1
   have hG4:=aJ hx4 hG' hpt
   have hE4:=aJ hx4 hE' het
   have hrom4:h4.rom=r:=bG hx4 hrom'
   have hb4:h4.base<=h4.next:=de hx4 hb'
   obtain ⟨_,h6,hs6,rfl,hx6⟩:=rM R (em:=em) (eb:=eb) hel _ l[i] (lSs _) h4 _ hrom4 hb4 hE4 hkid (jc _ (hnk i _ hpi))
   try simp -dsimp only[go_sem,e1,e3,e4,e6,e8]
   refine aD (n:=68) [[],[],[],[2],[],[2,3,4],[2,3,4,5],[0,1,2,3,4,5,6],[0,1,2,3,4,5,6,7]] (by simp -dsimp only[go_sem,hn']) (by kernel_rfl) ?_
   simp -dsimp only[go_sem,e1,e3,e4,e6,e8,af hG4,aa hP4,af hP4,eR hlt,az (n:=3) hrom4 hat' rfl,ab R.hs,ab hkid.same]
   refine ⟨_,h6,hs6,?_⟩
   simp -dsimp only[go_sem]
   have hx7:ExtS (aR tb) h2 h6:=hx5.trans hx6.toS
   cases hm:cD (emf (nms G) em) l[i] with
   | false =>
     rw[hm,if_pos (by simp)] at hst
     simp -dsimp only[go_sem,hr]
     rw[estart2 true (dcT c2),<-hst]
     exact ⟨hx0.toS.trans hx7,aj hx6 hT4⟩
   | true =>
     rw[hm,if_neg (by simp)] at hst
     simp -dsimp only[go_sem,e1,e3,e4,e6,e8,ah hlt hlb]
     exact ⟨l.length - (i+1),by omega,i+1,_,hlt,rfl,hx7,aj hx6 hT4,by rw[bY];exact hbl',hst,rfl⟩
  ·have hi0:decide ((i:Int)<(l.length:Int))=false:=dcF (by omega)
   rw[List.drop_eq_nil_of_le (by omega),bf] at hst
   simp -dsimp only[go_sem,e6,e8,hi0,aa hP',hr]
   rw[estart2 true (dcT c2),<-hst]
   exact ⟨hx0.toS.trans hx,hT'⟩
 by_cases c3:d.data.toList=[111,114]
 ·simp -dsimp only[go_sem,dcF c1,dcF c2,dcT c3,hr]
  refine au (n:=68) (by kernel_rfl) (fun m' a' h'=>∃(i:Nat) (bs':List Bool),i<=l.length/\m'=l.length - i/\ExtS (aR tb) h2 h'/\h'.own tb 4 (bs'.map .bool)/\bs'.length=G.length/\bf (emf (nms G) em) (ae (nms G)) false (l.drop i) bs'=bf (emf (nms G) em) (ae (nms G)) false l bs /\
   a'.get 1=.slice (some ⟨eb,0,none⟩) G.length G.length/\a'.get 3=.slice (some ⟨tb,0,none⟩) G.length G.length/\a'.get 4=.pointer (some ⟨h.next,0,none⟩)/\a'.get 6=.pointer (some ⟨h.next+1,0,none⟩)/\a'.get 9=.int .i64 i) ?_ l.length _ _ (by simp -dsimp only[go_sem,hn]) ⟨0,bs,lZr _,rfl,(Ext.refl _).toS,hT2,hbl,by rw[List.drop_zero],by simp -dsimp only[go_sem,g1],by simp -dsimp only[go_sem,g3],by simp -dsimp only[go_sem],by simp -dsimp only[go_sem],by simp -dsimp only[go_sem];rfl⟩
  rintro m' a' h' hn' ⟨i,bs',hi,rfl,hx,hT',hbl',hst,e1,e3,e4,e6,e8⟩
  have hrom':h'.rom=r:=bG hx (hx0.rom.trans hrom)
  have hb':h'.base<=h'.next:=de hx hb2
  have hP':=aJ hx hP hpt1
  have hG':=aJ hx hG1 hpt
  have hE':=aJ hx hE2 het
  by_cases hlt:i<l.length
  ·have hpi:l[i]? = some l[i]:=gEl hlt
   have hi1:decide ((i:Int)<(l.length:Int))=true:=dcT (Int.ofNat_lt.2 hlt)
   obtain ⟨Av1,c1',hcs⟩:=(hk i _ hpi).shape
   have hat':=hat i _ hpi
   have hkid:=hk i _ hpi
   rw[hcs] at hat' hkid
   have hAv:=hA (aO hlt)
   subst hAv
   obtain ⟨_,h4,hs4,rfl,hx4,hT4⟩:=ih i _ hpi h' _ bs' hrom' hb' hE' hkid (hnk i _ hpi) hT' hbl'
   simp -dsimp only[go_sem,e1,e3,e4,e6,e8,hi1,aa hP']
   refine aD (n:=68) [[],[],[],[2],[],[2,3,4],[2,3,4,5],[],[0,1,2,3,4,5,6,7]] (by simp -dsimp only[go_sem,hn']) (by kernel_rfl) ?_
   simp -dsimp only[go_sem,e1,e3,e4,e6,e8,af hG',aa hP',af hP',eR hlt,az (n:=3) hrom' hat' rfl,ab R.hs,ab hkid.same]
   refine ⟨_,h4,hs4,?_⟩
   rw[List.drop_eq_getElem_cons hlt,bf] at hst
   have hx5:ExtS (aR tb) h2 h4:=hx.trans hx4
   rw[Bool.false_and,if_neg (by simp)] at hst
   simp -dsimp only[go_sem,e1,e3,e4,e6,e8,ah hlt hlb]
   exact ⟨l.length - (i+1),by omega,i+1,_,hlt,rfl,hx5,hT4,by rw[bY];exact hbl',hst,rfl⟩
  ·have hi0:decide ((i:Int)<(l.length:Int))=false:=dcF (by omega)
   rw[List.drop_eq_nil_of_le (by omega),bf] at hst
   simp -dsimp only[go_sem,e6,e8,hi0,aa hP',hr]
   rw[estart2 false (dcF c2),<-hst]
   exact ⟨hx0.toS.trans hx,hT'⟩
 by_cases c4:d.data.toList=[109,97,110,121]
 ·simp -dsimp only[go_sem,dcF c1,dcF c2,dcF c3,dcT c4,hr]
  refine au (n:=68) (by kernel_rfl) (fun m' a' h'=>∃(i:Nat) (bs':List Bool),i<=l.length/\m'=l.length - i/\ExtS (aR tb) h2 h'/\h'.own tb 4 (bs'.map .bool)/\bs'.length=G.length/\bf (emf (nms G) em) (ae (nms G)) false (l.drop i) bs'=bf (emf (nms G) em) (ae (nms G)) false l bs /\
   a'.get 1=.slice (some ⟨eb,0,none⟩) G.length G.length/\a'.get 3=.slice (some ⟨tb,0,none⟩) G.length G.length/\a'.get 4=.pointer (some ⟨h.next,0,none⟩)/\a'.get 6=.pointer (some ⟨h.next+1,0,none⟩)/\a'.get 9=.int .i64 i) ?_ l.length _ _ (by simp -dsimp only[go_sem,hn]) ⟨0,bs,lZr _,rfl,(Ext.refl _).toS,hT2,hbl,by rw[List.drop_zero],by simp -dsimp only[go_sem,g1],by simp -dsimp only[go_sem,g3],by simp -dsimp only[go_sem],by simp -dsimp only[go_sem],by simp -dsimp only[go_sem];rfl⟩
  rintro m' a' h' hn' ⟨i,bs',hi,rfl,hx,hT',hbl',hst,e1,e3,e4,e6,e8⟩
  have hrom':h'.rom=r:=bG hx (hx0.rom.trans hrom)
  have hb':h'.base<=h'.next:=de hx hb2
  have hP':=aJ hx hP hpt1
  have hG':=aJ hx hG1 hpt
  have hE':=aJ hx hE2 het
  by_cases hlt:i<l.length
  ·have hpi:l[i]? = some l[i]:=gEl hlt
   have hi1:decide ((i:Int)<(l.length:Int))=true:=dcT (Int.ofNat_lt.2 hlt)
   obtain ⟨Av1,c1',hcs⟩:=(hk i _ hpi).shape
   have hat':=hat i _ hpi
   have hkid:=hk i _ hpi
   rw[hcs] at hat' hkid
   have hAv:=hA (aO hlt)
   subst hAv
   obtain ⟨_,h4,hs4,rfl,hx4,hT4⟩:=ih i _ hpi h' _ bs' hrom' hb' hE' hkid (hnk i _ hpi) hT' hbl'
   simp -dsimp only[go_sem,e1,e3,e4,e6,e8,hi1,aa hP']
   refine aD (n:=68) [[],[],[],[2],[],[2,3,4],[2,3,4,5],[],[0,1,2,3,4,5,6,7]] (by simp -dsimp only[go_sem,hn']) (by kernel_rfl) ?_
   simp -dsimp only[go_sem,e1,e3,e4,e6,e8,af hG',aa hP',af hP',eR hlt,az (n:=3) hrom' hat' rfl,ab R.hs,ab hkid.same]
   refine ⟨_,h4,hs4,?_⟩
   rw[List.drop_eq_getElem_cons hlt,bf] at hst
   have hx5:ExtS (aR tb) h2 h4:=hx.trans hx4
   rw[Bool.false_and,if_neg (by simp)] at hst
   simp -dsimp only[go_sem,e1,e3,e4,e6,e8,ah hlt hlb]
   exact ⟨l.length - (i+1),by omega,i+1,_,hlt,rfl,hx5,hT4,by rw[bY];exact hbl',hst,rfl⟩
  ·have hi0:decide ((i:Int)<(l.length:Int))=false:=dcF (by omega)
   rw[List.drop_eq_nil_of_le (by omega),bf] at hst
   simp -dsimp only[go_sem,e6,e8,hi0,aa hP',hr]
   rw[estart2 false (dcF c2),<-hst]
   exact ⟨hx0.toS.trans hx,hT'⟩
 by_cases c5:d.data.toList=[111,112,116]
 ·simp -dsimp only[go_sem,dcF c1,dcF c2,dcF c3,dcF c4,dcT c5,hr]
  refine au (n:=68) (by kernel_rfl) (fun m' a' h'=>∃(i:Nat) (bs':List Bool),i<=l.length/\m'=l.length - i/\ExtS (aR tb) h2 h'/\h'.own tb 4 (bs'.map .bool)/\bs'.length=G.length/\bf (emf (nms G) em) (ae (nms G)) false (l.drop i) bs'=bf (emf (nms G) em) (ae (nms G)) false l bs /\
   a'.get 1=.slice (some ⟨eb,0,none⟩) G.length G.length/\a'.get 3=.slice (some ⟨tb,0,none⟩) G.length G.length/\a'.get 4=.pointer (some ⟨h.next,0,none⟩)/\a'.get 6=.pointer (some ⟨h.next+1,0,none⟩)/\a'.get 9=.int .i64 i) ?_ l.length _ _ (by simp -dsimp only[go_sem,hn]) ⟨0,bs,lZr _,rfl,(Ext.refl _).toS,hT2,hbl,by rw[List.drop_zero],by simp -dsimp only[go_sem,g1],by simp -dsimp only[go_sem,g3],by simp -dsimp only[go_sem],by simp -dsimp only[go_sem],by simp -dsimp only[go_sem];rfl⟩
  rintro m' a' h' hn' ⟨i,bs',hi,rfl,hx,hT',hbl',hst,e1,e3,e4,e6,e8⟩
  have hrom':h'.rom=r:=bG hx (hx0.rom.trans hrom)
  have hb':h'.base<=h'.next:=de hx hb2
  have hP':=aJ hx hP hpt1
  have hG':=aJ hx hG1 hpt
  have hE':=aJ hx hE2 het
  by_cases hlt:i<l.length
  ·have hpi:l[i]? = some l[i]:=gEl hlt
   have hi1:decide ((i:Int)<(l.length:Int))=true:=dcT (Int.ofNat_lt.2 hlt)
   obtain ⟨Av1,c1',hcs⟩:=(hk i _ hpi).shape
   have hat':=hat i _ hpi
   have hkid:=hk i _ hpi
   rw[hcs] at hat' hkid
   have hAv:=hA (aO hlt)
   subst hAv
   obtain ⟨_,h4,hs4,rfl,hx4,hT4⟩:=ih i _ hpi h' _ bs' hrom' hb' hE' hkid (hnk i _ hpi) hT' hbl'
   simp -dsimp only[go_sem,e1,e3,e4,e6,e8,hi1,aa hP']
   refine aD (n:=68) [[],[],[],[2],[],[2,3,4],[2,3,4,5],[],[0,1,2,3,4,5,6,7]] (by simp -dsimp only[go_sem,hn']) (by kernel_rfl) ?_
   simp -dsimp only[go_sem,e1,e3,e4,e6,e8,af hG',aa hP',af hP',eR hlt,az (n:=3) hrom' hat' rfl,ab R.hs,ab hkid.same]
   refine ⟨_,h4,hs4,?_⟩
   rw[List.drop_eq_getElem_cons hlt,bf] at hst
   have hx5:ExtS (aR tb) h2 h4:=hx.trans hx4
   rw[Bool.false_and,if_neg (by simp)] at hst
   simp -dsimp only[go_sem,e1,e3,e4,e6,e8,ah hlt hlb]
   exact ⟨l.length - (i+1),by omega,i+1,_,hlt,rfl,hx5,hT4,by rw[bY];exact hbl',hst,rfl⟩
  ·have hi0:decide ((i:Int)<(l.length:Int))=false:=dcF (by omega)
   rw[List.drop_eq_nil_of_le (by omega),bf] at hst
   simp -dsimp only[go_sem,e6,e8,hi0,aa hP',hr]
   rw[estart2 false (dcF c2),<-hst]
   exact ⟨hx0.toS.trans hx,hT'⟩
 by_cases c6:d.data.toList=[110,111,116]
 ·simp -dsimp only[go_sem,dcF c1,dcF c2,dcF c3,dcF c4,dcF c5,dcT c6,hr]
  refine au (n:=68) (by kernel_rfl) (fun m' a' h'=>∃(i:Nat) (bs':List Bool),i<=l.length/\m'=l.length - i/\ExtS (aR tb) h2 h'/\h'.own tb 4 (bs'.map .bool)/\bs'.length=G.length/\bf (emf (nms G) em) (ae (nms G)) false (l.drop i) bs'=bf (emf (nms G) em) (ae (nms G)) false l bs /\
   a'.get 1=.slice (some ⟨eb,0,none⟩) G.length G.length/\a'.get 3=.slice (some ⟨tb,0,none⟩) G.length G.length/\a'.get 4=.pointer (some ⟨h.next,0,none⟩)/\a'.get 6=.pointer (some ⟨h.next+1,0,none⟩)/\a'.get 9=.int .i64 i) ?_ l.length _ _ (by simp -dsimp only[go_sem,hn]) ⟨0,bs,lZr _,rfl,(Ext.refl _).toS,hT2,hbl,by rw[List.drop_zero],by simp -dsimp only[go_sem,g1],by simp -dsimp only[go_sem,g3],by simp -dsimp only[go_sem],by simp -dsimp only[go_sem],by simp -dsimp only[go_sem];rfl⟩
  rintro m' a' h' hn' ⟨i,bs',hi,rfl,hx,hT',hbl',hst,e1,e3,e4,e6,e8⟩
  have hrom':h'.rom=r:=bG hx (hx0.rom.trans hrom)
  have hb':h'.base<=h'.next:=de hx hb2
  have hP':=aJ hx hP hpt1
  have hG':=aJ hx hG1 hpt
  have hE':=aJ hx hE2 het
  by_cases hlt:i<l.length
  ·have hpi:l[i]? = some l[i]:=gEl hlt
   have hi1:decide ((i:Int)<(l.length:Int))=true:=dcT (Int.ofNat_lt.2 hlt)
   obtain ⟨Av1,c1',hcs⟩:=(hk i _ hpi).shape
   have hat':=hat i _ hpi
   have hkid:=hk i _ hpi
   rw[hcs] at hat' hkid
   have hAv:=hA (aO hlt)
   subst hAv
   obtain ⟨_,h4,hs4,rfl,hx4,hT4⟩:=ih i _ hpi h' _ bs' hrom' hb' hE' hkid (hnk i _ hpi) hT' hbl'
   simp -dsimp only[go_sem,e1,e3,e4,e6,e8,hi1,aa hP']
   refine aD (n:=68) [[],[],[],[2],[],[2,3,4],[2,3,4,5],[],[0,1,2,3,4,5,6,7]] (by simp -dsimp only[go_sem,hn']) (by kernel_rfl) ?_
   simp -dsimp only[go_sem,e1,e3,e4,e6,e8,af hG',aa hP',af hP',eR hlt,az (n:=3) hrom' hat' rfl,ab R.hs,ab hkid.same]
   refine ⟨_,h4,hs4,?_⟩
   rw[List.drop_eq_getElem_cons hlt,bf] at hst
   have hx5:ExtS (aR tb) h2 h4:=hx.trans hx4
   rw[Bool.false_and,if_neg (by simp)] at hst
   simp -dsimp only[go_sem,e1,e3,e4,e6,e8,ah hlt hlb]
   exact ⟨l.length - (i+1),by omega,i+1,_,hlt,rfl,hx5,hT4,by rw[bY];exact hbl',hst,rfl⟩
  ·have hi0:decide ((i:Int)<(l.length:Int))=false:=dcF (by omega)
   rw[List.drop_eq_nil_of_le (by omega),bf] at hst
   simp -dsimp only[go_sem,e6,e8,hi0,aa hP',hr]
   rw[estart2 false (dcF c2),<-hst]
   exact ⟨hx0.toS.trans hx,hT'⟩
 have hl0:l=[]:=List.length_eq_zero_iff.1 (qG hko c2 c3 c4 c5 c6)
 simp -dsimp only[go_sem,dcF c1,dcF c2,dcF c3,dcF c4,dcF c5,dcF c6,hr]
 rw[estart2 false (dcF c2),estart false hl0]
 exact ⟨hx0.toS,hT2⟩
end
section
variable {r:Ro}
def uX (r:Ro) (G:List ar) (Gv:Option Addr) (gc eb:Nat) (em:List Bool) (p:ad):Prop:=∀(h:Hp) (cs:List Value),h.rom=r->h.base<=h.next->h.own eb 4 (em.map .bool)->RoPart r p cs->dm (nms G) p ->
 ∃v h1,Snd Tryz.prog 63 [.agg #[.slice Gv G.length gc],.slice (some ⟨eb,0,none⟩) G.length G.length,.agg cs.toArray] h v h1/\v=.bool (fX (emf (nms G) em) p)/\Ext h h1
theorem pi {G:List ar} {Gv:Option Addr} {gc gb go eb:Nat} {gcss:Nat->List Value} (R:bd r G Gv gc gb go gcss) {em:List Bool} {d t:ByteArray} {l:List ad} {Av:Option Addr} {c b o gp pb:Nat} {css:Nat->List Value} (ih:∀(i:Nat) (p:ad),l[i]? = some p->uX r G Gv gc eb em p) (hnk:∀(i:Nat) (p:ad),l[i]? = some p->dm (nms G) p)
  (hlb:l.length<=9223372036854775807) (hA:l≠[]->Av=some ⟨b,o,none⟩) (hat:∀(i:Nat) (p:ad),l[i]? = some p->fS r b (o+i*3) (css i)) (hk:∀(i:Nat) (p:ad),l[i]? = some p->RoPart r p (css i))
  {a:Ev.A} {h1:Hp} {Q:Ex->Ev.A->Hp->Prop} (hn:a.n=35) (hrom:h1.rom=r) (hb1:h1.base<=h1.next) (hE:h1.own eb 4 (em.map .bool)) (hG:h1.own gp 24 [.slice Gv G.length gc]) (hP:h1.own pb 48 [.string d,.string t,.slice Av l.length c])
  (g1:a.get 1=.slice (some ⟨eb,0,none⟩) G.length G.length) (g3:a.get 3=.pointer (some ⟨gp,0,none⟩)) (g5:a.get 5=.pointer (some ⟨pb,0,none⟩)) (g7:a.get 7=.int .i64 0)
  (hq0:∀a1 h2,Ext h1 h2->gL (emf (nms G) em) l=false->Q (.exit 0) a1 h2) (hq1:∀a1 h2,Ext h1 h2->gL (emf (nms G) em) l=true->a1.get 6=.bool true->Q .ret a1 h2):Th Tryz.prog (aw Tryz.f63 [1,1,0,1,0]) a h1 Q ⟨⟩ ⟨⟩:=by
 simp only[aw,nav,Tryz.f63]
 refine au (n:=35) (by kernel_rfl) (fun m' a' h'=>∃i:Nat,i<=l.length/\m'=l.length - i/\Ext h1 h'/\(∀(j:Nat) (p:ad),j<i->l[j]? = some p->fX (emf (nms G) em) p=false) /\
  a'.get 1=.slice (some ⟨eb,0,none⟩) G.length G.length/\a'.get 3=.pointer (some ⟨gp,0,none⟩)/\a'.get 5=.pointer (some ⟨pb,0,none⟩)/\a'.get 7=.int .i64 i) ?_ l.length _ _ hn ⟨0,lZr _,rfl,Ext.refl _,fun j p hj=>absurd hj (lNz _),g1,g3,g5,g7⟩
 rintro m' a' h' hn' ⟨i,hi,rfl,hx,hall,e1,e3,e5,e7⟩
 have hrom':h'.rom=r:=hx.rom.trans hrom
 have hb':h'.base<=h'.next:=by rw[hx.base];exact lTr hb1 hx.next
 have hP':=aj hx hP
 have hG':=aj hx hG
 by_cases hlt:i<l.length
 ·have hpi:l[i]? = some l[i]:=gEl hlt
  have hi1:decide ((i:Int)<(l.length:Int))=true:=dcT (Int.ofNat_lt.2 hlt)
  obtain ⟨Av1,c1',hcs⟩:=(hk i _ hpi).shape
  have hat':=hat i _ hpi
  have hkid:=hk i _ hpi
  rw[hcs] at hat' hkid
  have hAv:=hA (aO hlt)
  subst hAv
  obtain ⟨_,h4,hs4,rfl,hx4⟩:=ih i _ hpi h' _ hrom' hb' (aj hx hE) hkid (hnk i _ hpi)
  simp -dsimp only[go_sem,e1,e3,e5,e7,hi1,aa hP']
  refine aD (n:=35) [[],[],[],[2],[],[2,3,4],[2,3,4,5],[0,1,2,3,4,5,6]] (by simp -dsimp only[go_sem,hn']) (by kernel_rfl) ?_
  simp -dsimp only[go_sem,e1,e3,e5,e7,af hG',aa hP',af hP',eR hlt,az (n:=3) hrom' hat' rfl,ab R.hs,ab hkid.same]
  refine ⟨_,h4,hs4,?_⟩
  simp -dsimp only[go_sem]
  cases hm:fX (emf (nms G) em) l[i] with
  | true =>
    simp -dsimp only[go_sem]
    refine hq1 _ _ (hx.trans hx4) ?_ (by simp -dsimp only[go_sem])
    cases hq:gL (emf (nms G) em) l with
    | true=>rfl
    | false=>rw[(gM _ l).1 hq i _ hpi] at hm;cases hm
  | false =>
    simp -dsimp only[go_sem,e1,e3,e5,e7,ah hlt hlb]
    refine ⟨l.length - (i+1),by omega,i+1,hlt,rfl,hx.trans hx4,fun j p hj hp => ?_,rfl⟩
    rcases Nat.lt_succ_iff_lt_or_eq.1 hj with h|h
    ·exact hall j p h hp
    ·subst h;rw[hpi] at hp;injection hp with hp;subst hp;exact hm
 ·have hi0:decide ((i:Int)<(l.length:Int))=false:=dcF (by omega)
  simp -dsimp only[go_sem,e5,e7,hi0,aa hP']
  exact hq0 _ _ hx ((gM _ l).2 fun j p hp=>hall j p (by have:=(List.getElem?_eq_some_iff.1 hp).1;omega) hp)
theorem B3 {G:List ar} {Gv:Option Addr} {gc gb go eb:Nat} {gcss:Nat->List Value} (R:bd r G Gv gc gb go gcss) {em:List Bool} (hel:em.length=G.length):∀(n:Nat) (p:ad),SizeOf.sizeOf p<n->uX r G Gv gc eb em p:=by
 intro n
 induction n with
 | zero=>exact fun p hp=>absurd hp (lNz _)
 | succ n ihn =>
 rintro ⟨d,t,l⟩ hn h cs hrom hb hE hp hnm
 have ih:∀(i:Nat) (p:ad),l[i]? = some p->uX r G Gv gc eb em p:=fun i p hp=>ihn p (by
  have:=List.sizeOf_lt_of_mem (mOg hp)
  simp only[ad.mk.sizeOf_spec] at hn
  omega)
 have hnk:∀(i:Nat) (p:ad),l[i]? = some p->dm (nms G) p:=eY hnm.2.2
 have hGl:(nms G).length=G.length:=by simp[nms]
 cases hp with
 | mk _ _ _ Av c b o css hc hlb hA hat hk hs =>
 refine aL wf Tryz.func63 rfl rfl (n:=35) rfl (by kernel_rfl) rfl ?_
 intro a hn hg
 have hr:Tryz.f63.results.toList=[.tmp 6]:=rfl
 have g0:=hg 0
 have g1:=hg 1
 have g2:=hg 2
 clear hg
 simp only[gC0,gC1] at g0 g1 g2
 have hG:=an hb 24 [.slice Gv G.length gc]
 have hxg:=Ext.new h (ak.cells ⟨[.slice Gv G.length gc],24,0,0,false⟩)
 have hbg:=Nat.le_succ_of_le (m:=h.next) hb
 have hP:=an (h:=h.newH (ak.cells ⟨[.slice Gv G.length gc],24,0,0,false⟩)) hbg 48 [.string d,.string t,.slice Av l.length c]
 have hG1:=db hG (ak.cells ⟨[.string d,.string t,.slice Av l.length c],48,0,0,false⟩)
 have hx0:=hxg.trans (Ext.new _ (ak.cells ⟨[.string d,.string t,.slice Av l.length c],48,0,0,false⟩))
 simp -dsimp only[go_sem,g0,g1,g2,bu]
 simp only[bu] at hP
 generalize (h.newH (ak.cells ⟨[.slice Gv G.length gc],24,0,0,false⟩)).newH (ak.cells ⟨[.string d,.string t,.slice Av l.length c],48,0,0,false⟩)=h2 at hP hG1 hx0 ⊢
 have hb2:h2.base<=h2.next:=by rw[hx0.base];exact lTr hb hx0.next
 have hrom2:h2.rom=r:=hx0.rom.trans hrom
 have hE2:=aj hx0 hE
 have e:fX (emf (nms G) em) ⟨d,t,l⟩=((decide (d.data.toList=[109,97,110,121])&&kM (emf (nms G) em) l)||gL (emf (nms G) em) l):=by unfold fX;rfl
 refine aD (n:=35) [[],[0],[0,1],[0,1,2],[0,1,2,3],[0,1,2,3],[0,1,2,3],[0,1,2,3,6],[0,1,2,3,6,7],[0,1,2,3,6,7,8],[0,1,2,3,4,5,6,7,8,9],[0,1,2,3,4,5,6,7,8,9,10]] (by simp -dsimp only[go_sem,hn]) (by kernel_rfl) ?_
 by_cases c1:d.data.toList=[109,97,110,121]
 ·have k1:decide (d.data.toList=[109,97,110,121])=true:=dcT c1
  have hl1:l.length=1:=hnm.2.1 (.inl c1)
  have hlt:0<l.length:=by omega
  have hpi:l[0]? = some l[0]:=gEl hlt
  obtain ⟨Av1,c1',hcs⟩:=(hk 0 _ hpi).shape
  have hat':=hat 0 _ hpi
  have hkid:=hk 0 _ hpi
  rw[hcs] at hat' hkid
  rw[Nat.zero_mul,Nat.add_zero] at hat'
  have hAv:=hA (aO hlt)
  subst hAv
  have hix:ap Tryz.prog 46 (.slice (some ⟨b,o,none⟩) l.length c) (.int .i64 0)=some (.pointer (some ⟨b,o,none⟩)):=by
   have:=eR (b:=b) (o:=o) (c:=c) (n:=l.length) hlt
   simpa using this
  obtain ⟨_,h4,hs4,rfl,hx4⟩:=rM R (em:=em) (eb:=eb) hel _ l[0] (lSs _) h2 _ hrom2 hb2 hE2 hkid (hnk 0 _ hpi)
  simp -dsimp only[go_sem,ai,g1,aa hP,af hG1,af hP,k1,hix,az (n:=3) hrom2 hat' rfl,ab R.hs,ab hkid.same]
  refine ⟨_,h4,hs4,?_⟩
  have hmh:kM (emf (nms G) em) l=cD (emf (nms G) em) l[0]:=by
   match l,hlt with
   | x::l,_=>rfl
  simp -dsimp only[go_sem,ai]
  cases hm:cD (emf (nms G) em) l[0] with
  | true =>
    simp -dsimp only[go_sem,hr,e,k1,hmh,hm,Bool.true_and,Bool.true_or]
    exact hx0.trans hx4
  | false =>
    simp -dsimp only[go_sem,ai]
    refine pi R (d:=d) (t:=t) (l:=l) (c:=c) (gp:=h.next) (pb:=h.next+1) (eb:=eb) (em:=em) ih hnk hlb hA hat hk (by simp -dsimp only[go_sem,hn]) (hx4.rom.trans hrom2) (by rw[hx4.base];exact lTr hb2 hx4.next) (aj hx4 hE2) (aj hx4 hG1) (aj hx4 hP) (by simp -dsimp only[go_sem,g1]) (by simp -dsimp only[go_sem]) (by simp -dsimp only[go_sem]) (by simp -dsimp only[go_sem]) (fun a1 h3 hx3 hf => ?_) (fun a1 h3 hx3 hf h4 => ?_)
    ·simp -dsimp only[go_sem,hr,e,k1,hmh,hm,hf,Bool.true_and,Bool.false_or]
     exact (hx0.trans hx4).trans hx3
    ·simp -dsimp only[go_sem,hr,e,k1,hmh,hm,hf,h4,Bool.true_and,Bool.false_or]
     exact (hx0.trans hx4).trans hx3
 ·have k1:decide (d.data.toList=[109,97,110,121])=false:=dcF c1
  simp -dsimp only[go_sem,ai,g1,aa hP,k1]
  refine pi R (d:=d) (t:=t) (l:=l) (c:=c) (gp:=h.next) (pb:=h.next+1) (eb:=eb) (em:=em) ih hnk hlb hA hat hk (by simp -dsimp only[go_sem,hn]) hrom2 hb2 hE2 hG1 hP (by simp -dsimp only[go_sem,g1]) (by simp -dsimp only[go_sem]) (by simp -dsimp only[go_sem]) (by simp -dsimp only[go_sem]) (fun a1 h3 hx3 hf => ?_) (fun a1 h3 hx3 hf h4 => ?_)
  ·simp -dsimp only[go_sem,hr,e,k1,hf,Bool.false_and,Bool.false_or]
   exact hx0.trans hx3
  ·simp -dsimp only[go_sem,hr,e,k1,hf,h4,Bool.false_and,Bool.false_or]
   exact hx0.trans hx3
end
section
variable {h h1 h2:Hp} {e:TypeId}
structure bX (e:TypeId) (h:Hp) (b:Nat) (cs:List Value) (f:Nat):Prop where
 lo:h.base<=b
 lt:b<h.next
 row:∃bs g,h.row b=some ⟨cs,e,f,bs,g⟩
 fl:f≠0->f<h.nfam
theorem cB {b o n:Nat} {cs:List Value} {f:Nat} (k:bX e h b cs f):h.loads ⟨b,o,none⟩ n=bU (cs.drop o) n:=by
 obtain ⟨bs,g,hr⟩:=k.row
 cases n with
 | zero=>simp[Hp.loads,bU]
 | succ n=>simp only[Hp.loads,dU k.lo,hr]
theorem bV {b o:Nat} {cs:List Value} {f:Nat} (k:bX e h b cs f):h.load ⟨b,o,none⟩=cs[o]? := by
 obtain ⟨bs,g,hr⟩:=k.row
 simp only[Hp.load,dU k.lo,hr]
theorem bR {S:Nat->Prop} (x:ExtS S h h1) {b:Nat} {cs:List Value} {f:Nat} (k:bX e h b cs f) (hb:¬S b):bX e h1 b cs f:=by
 refine ⟨by rw[x.base];exact k.lo,lTl k.lt x.next,?_,fun e=>lTl (k.fl e) x.nfam⟩
 obtain ⟨bs,g,hr⟩:=k.row
 refine ⟨bs,g,?_⟩
 unfold Hp.row at hr ⊢
 rw[x.objs b k.lt hb]
 cases hg:h.objs.get b with
 | none=>rw[hg] at hr;cases hr
 | some ob =>
   rw[hg] at hr
   cases ob with
   | cells r =>
     simp only at hr ⊢
     cases hf:r.fam with
     | zero=>rw[hf] at hr;exact hr
     | succ q =>
       rw[hf] at hr
       simp only at hr ⊢
       have hrf:r=⟨cs,e,f,bs,g⟩:=by
        split at hr
        ·split at hr
         ·injection hr
         ·cases hr
        ·cases hr
       have hfq:f=q+1:=by rw[<-hf,hrf]
       rw[x.fams (q+1) (by rw[<-hfq];exact k.fl (by omega))]
       exact hr
   | map es k=>cases hr
   | sIter s p=>cases hr
   | mIter a b c d=>cases hr
theorem je {b:Nat} {cs:List Value} {f:Nat} (k:bX e h b cs f):∃r,h.objs.get b=some (.cells r)/\r.e=e:=by
 obtain ⟨bs,g,hr⟩:=k.row
 unfold Hp.row at hr
 cases hg:h.objs.get b with
 | none=>rw[hg] at hr;cases hr
 | some ob =>
   rw[hg] at hr
   cases ob with
   | cells r =>
     refine ⟨r,rfl,?_⟩
     simp only at hr
     split at hr
     ·injection hr with hr;rw[hr]
     ·split at hr
      ·split at hr
       ·injection hr with hr;rw[hr]
       ·cases hr
      ·cases hr
   | map es k=>cases hr
   | sIter s p=>cases hr
   | mIter a b c d=>cases hr
theorem lw {b b':Nat} {cs c':List Value} {f:Nat} {e':TypeId} (k:bX e h b cs f) (o:h.own b' e' c') (hne:e'≠e):b'≠b:=by
 rintro rfl
 obtain ⟨r,h1,h2⟩:=je k
 rw[o.2.2] at h1
 injection h1 with h1
 injection h1 with h1
 rw[<-h1] at h2
 exact hne h2
theorem dB:∀(l:List Value),bU l l.length=some l
 | []=>rfl
 | v::l=>by simp only[List.length_cons,bU,dB l]
def OwnE (e:TypeId) (h:Hp) (n0 f0:Nat) (cs:List Value) (v:Value):Prop:=(cs=[]/\v=.slice none 0 0) \/
 ∃b f,cs≠[]/\v=.slice (some ⟨b,0,none⟩) cs.length cs.length/\bX e h b cs f/\n0<=b/\(f≠0->f0<=f)
theorem OwnE.ext (x:Ext h h1) {n0 f0:Nat} {cs:List Value} {v:Value} (k:OwnE e h n0 f0 cs v):OwnE e h1 n0 f0 cs v:=by
 rcases k with ⟨rfl,rfl⟩|⟨b,f,hl,rfl,hr,hb,hf⟩
 ·exact .inl ⟨rfl,rfl⟩
 ·exact .inr ⟨b,f,hl,rfl,bR (x.toS (S:=fun _=>False)) hr (fun c=>c),hb,hf⟩
theorem OwnE.len {n0 f0:Nat} {cs:List Value} {v:Value} (k:OwnE e h n0 f0 cs v):∃A,v=.slice A cs.length cs.length:=by
 rcases k with ⟨rfl,rfl⟩|⟨b,f,hl,rfl,_⟩<;>exact ⟨_,rfl⟩
theorem mJ {t:TypeId} {z x:Value} (hu:Tryz.prog.underlying t=some (.slice e)) (hs:aA Tryz.prog e=some 1) (hz:bE Tryz.prog e=some z) (hzl:Nat.beq z.cells.toList.length 1=true/\0<1)
  (hby:(match Tryz.prog.info? e with|some i=>Nat.ble i.bytes 100000&&Nat.blt 0 i.bytes|none=>false)=true) (hni:noInt Tryz.prog [t]=true) (hx1:oneCell x=true)
  {n0 f0:Nat} {cs:List Value} {v:Value} (k:OwnE e h n0 f0 cs v) {wb:Nat} (hw:h.own wb e [x]) (hb:h.base<=h.next) (hn0:n0<=h.next) (hf0:f0<=h.nfam) (hsz:cs.length<=100000) :
  ∃v' h',bt Tryz.prog h [t,t] [v,.slice (some ⟨wb,0,none⟩) 1 1]=some (v',h')/\OwnE e h' n0 f0 (cs++[x]) v'/\(∀(S:Nat->Prop) (h0:Hp),ExtS S h0 h->h0.next<=n0->h0.nfam<=f0->ExtS S h0 h') /\
   (∀b' e' c',e'≠e->h.own b' e' c'->h'.own b' e' c')/\h.next<=h'.next:=by
 have hf1:bS h 1 1 (.slice (some ⟨wb,0,none⟩) 1 1)=some [x]:=by
  simp only[bS,af hw]
  rfl
 rcases k with ⟨rfl,rfl⟩|⟨b,f,hl,rfl,hr,hb0,hf⟩
 ·have hx:=Ext.new h (ak.cells { c:=[x],e:=e,fam:=0,base:=0,grown:=true })
  refine ⟨.slice (some ⟨h.next,0,none⟩) 1 1,h.newH (ak.cells { c:=[x],e:=e,fam:=0,base:=0,grown:=true }),?_,?_,fun S h0 q _ _=>q.trans hx.toS,fun b' e' c' _ o=>aj hx o,hx.next⟩
  ·rw[cQ hu hs hz hzl hby h (len:=0) (cap:=0) (n:=1) rfl hf1 (by decide) (lRf _) (by simp[hx1]) rfl hni]
   have:Nat.ble (0+1) 0=false:=rfl
   simp only[apd,this,Hp.grownRow,lG]
  ·refine .inr ⟨h.next,0,by simp,rfl,⟨hb,lSs _,⟨0,true,?_⟩,fun e=>absurd rfl e⟩,hn0,fun e=>absurd rfl e⟩
   simp only[Hp.row,cW,if_true,List.nil_append]
 ·have hlen:0<cs.length:=List.length_pos_iff.2 hl
  obtain ⟨bs,g,hrow⟩:=hr.row
  have hld:h.loads ⟨b,0,none⟩ (cs.length*1)=some cs:=by
   rw[cB hr,List.drop_zero,Nat.mul_one]
   exact dB _
  have hc:Nat.ble (cs.length+1) cs.length=false:=dX (by omega)
  have hbeq:Nat.beq e e=true:=by simp
  have happ:bt Tryz.prog h [t,t] [.slice (some ⟨b,0,none⟩) cs.length cs.length,.slice (some ⟨wb,0,none⟩) 1 1]=apd h e 1 (some ⟨b,0,none⟩) cs.length cs.length 1 [x] :=
   cQ hu hs hz hzl hby h rfl hf1 (by omega) (lRf _) (by simp[hx1]) rfl hni
  have fin:∀(f':Nat) (h':Hp),apd h e 1 (some ⟨b,0,none⟩) cs.length cs.length 1 [x]=some (.slice (some ⟨h.next,0,none⟩) (cs.length+1) (cs.length+1),h')->bX e h' h.next (cs++[x]) f'->(f'=f/\f≠0\/f'=h.nfam)->h'.base=h.base->h'.ro=h.ro->h'.next=h.next+1->h.nfam<=h'.nfam->(∀y,y<h.next->y≠b->h'.objs.get y=h.objs.get y)->(∀q,q<h.nfam->¬(q=f/\f≠0)->h'.fams.get q=h.fams.get q) ->
    ∃v' h',bt Tryz.prog h [t,t] [.slice (some ⟨b,0,none⟩) cs.length cs.length,.slice (some ⟨wb,0,none⟩) 1 1]=some (v',h')/\OwnE e h' n0 f0 (cs++[x]) v'/\(∀(S:Nat->Prop) (h0:Hp),ExtS S h0 h->h0.next<=n0->h0.nfam<=f0->ExtS S h0 h')/\(∀b' e' c',e'≠e->h.own b' e' c'->h'.own b' e' c')/\h.next<=h'.next:=by
   intro f' h' a1 a2 a3 e1 e2 e3 e4 e5 e6
   have hf':f'≠0->f0<=f':=by
    intro c
    rcases a3 with ⟨rfl,q⟩|rfl
    ·exact hf q
    ·exact hf0
   refine ⟨_,h',by rw[happ,a1],.inr ⟨h.next,f',by simp,by simp,a2,hn0,hf'⟩,fun S h0 q q1 q2=>qC q (lTr q1 hb0) (fun c=>lTr q2 (hf c)) e1 e2 e3 e4 e5 e6,fun b' e' c' hne o => ?_,by omega⟩
   have hbb:=lw hr o hne
   exact ⟨by rw[e1];exact o.1,by have:=o.2.1;omega,by rw[e5 b' o.2.1 hbb];exact o.2.2⟩
  cases hfe:f with
  | zero =>
    subst hfe
    refine fin h.nfam { h with
     objs:=(h.objs.put b (.cells ⟨cs,e,h.nfam,bs,g⟩)).put h.next (.cells ⟨cs++[x],e,h.nfam,bs+0,true⟩)
     next:=h.next+1
     fams:=h.fams.put h.nfam (⟨h.next,bs+0,bs+0+(cs++[x]).length⟩::ma b bs (bs+cs.length) (bs+0+cs.length*1))
     nfam:=h.nfam+1 } ?_ ?_ (.inr rfl) rfl rfl rfl (Nat.le_succ _) ?_ ?_
    ·simp only[apd,hc,hrow,hld,gH,hbeq]
    ·refine ⟨by have:=hr.lo;have:=hr.lt;show h.base<=h.next;omega,lSs _,⟨bs+0,true,?_⟩,fun _=>lSs _⟩
     simp only[Hp.row,Tr.get_put,if_true]
     cases hnf:h.nfam with
     | zero=>rfl
     | succ q=>simp only[Tr.get_put,if_true,List.any_cons,dW,Bool.true_or]
    ·intro x hx hxb
     simp only[Tr.get_put,if_neg (Nat.ne_of_lt hx),if_neg hxb]
    ·intro q hq _
     simp only[Tr.get_put,if_neg (Nat.ne_of_lt hq)]
  | succ q0 =>
    subst hfe
    have hfm:∃l,h.fams.get (q0+1)=some l:=by
     have hrow2:=hrow
     unfold Hp.row at hrow2
     split at hrow2
     ·rename_i r hg
      split at hrow2
      ·rename_i e0
       injection hrow2 with hrow2
       rw[hrow2] at e0
       cases e0
      ·rename_i f0' e0
       split at hrow2
       ·rename_i l hl0
        split at hrow2
        ·injection hrow2 with hrow2
         rw[hrow2] at e0
         have e1:q0+1=f0'+1:=e0
         exact ⟨l,by rw[e1];exact hl0⟩
        ·cases hrow2
       ·cases hrow2
     ·cases hrow2
    obtain ⟨l,hl0⟩:=hfm
    refine fin (q0+1) { h with
     objs:=h.objs.put h.next (.cells ⟨cs++[x],e,q0+1,bs+0,true⟩)
     next:=h.next+1
     fams:=h.fams.put (q0+1) (⟨h.next,bs+0,bs+0+(cs++[x]).length⟩::l.filter fun m=>Nat.ble m.hi (bs+0+cs.length*1)) } ?_ ?_ (.inl ⟨rfl,by omega⟩) rfl rfl rfl (lRf _) ?_ ?_
    ·simp only[apd,hc,hrow,hld,gH,hbeq,hl0]
    ·refine ⟨by have:=hr.lo;have:=hr.lt;show h.base<=h.next;omega,lSs _,⟨bs+0,true,?_⟩,fun e=>hr.fl e⟩
     simp only[Hp.row,Tr.get_put,if_true,List.any_cons,dW,Bool.true_or]
    ·intro x hx _
     simp only[Tr.get_put,if_neg (Nat.ne_of_lt hx)]
    ·intro q hq hqf
     have:¬q=q0+1:=fun e=>hqf ⟨e,by omega⟩
     simp only[Tr.get_put,if_neg this]
theorem Dq {v x:Value} {wb n0 f0:Nat} {cs:List Value} (hx1:oneCell x=true) (k:OwnE 58 h n0 f0 cs v) (hw:h.own wb 58 [x]) (hb:h.base<=h.next) (hn0:n0<=h.next) (hf0:f0<=h.nfam) (hsz:cs.length<=100000) :
  ∃v' h',bt Tryz.prog h [132,132] [v,.slice (some ⟨wb,0,none⟩) 1 1]=some (v',h')/\OwnE 58 h' n0 f0 (cs++[x]) v'/\(∀(S:Nat->Prop) (h0:Hp),ExtS S h0 h->h0.next<=n0->h0.nfam<=f0->ExtS S h0 h') /\
   (∀b' e' c',e'≠58->h.own b' e' c'->h'.own b' e' c')/\h.next<=h'.next :=
 mJ (e:=58) (t:=132) Tryz.underlying132 pg Dm (by exact ⟨rfl,by decide⟩) (by kernel_rfl) (by kernel_rfl) hx1 k hw hb hn0 hf0 hsz
theorem Ec {v x:Value} {wb n0 f0:Nat} {cs:List Value} (hx1:oneCell x=true) (k:OwnE 9 h n0 f0 cs v) (hw:h.own wb 9 [x]) (hb:h.base<=h.next) (hn0:n0<=h.next) (hf0:f0<=h.nfam) (hsz:cs.length<=100000) :
  ∃v' h',bt Tryz.prog h [34,34] [v,.slice (some ⟨wb,0,none⟩) 1 1]=some (v',h')/\OwnE 9 h' n0 f0 (cs++[x]) v'/\(∀(S:Nat->Prop) (h0:Hp),ExtS S h0 h->h0.next<=n0->h0.nfam<=f0->ExtS S h0 h') /\
   (∀b' e' c',e'≠9->h.own b' e' c'->h'.own b' e' c')/\h.next<=h'.next :=
 mJ (e:=9) (t:=34) Tryz.underlying34 sz9 z9 (by exact ⟨rfl,by decide⟩) (by kernel_rfl) (by kernel_rfl) hx1 k hw hb hn0 hf0 hsz
end
section
variable {r:Ro} {h:Hp} {n0 tb n f:Nat} {bs:List Nat} {M:List (List Bool)}
structure MatR (h:Hp) (n0 tb n f:Nat) (bs:List Nat) (M:List (List Bool)):Prop where
 row:bX 58 h tb (bs.map fun b=>.slice (some ⟨b,0,none⟩) n n) f
 lb:bs.length=n
 lM:M.length=n
 rows:∀(i b:Nat) (L:List Bool),bs[i]? = some b->M[i]? = some L->h.own b 4 (L.map .bool)/\L.length=n
 dis:∀i j b:Nat,bs[i]? = some b->bs[j]? = some b->i=j
 lo:n0<=tb/\∀i b:Nat,bs[i]? = some b->n0<=b
theorem MatR.at (k:MatR h n0 tb n f bs M) {i:Nat} (hi:i<n):∃b L,bs[i]? = some b/\M[i]? = some L/\h.own b 4 (L.map .bool)/\L.length=n/\h.load ⟨tb,i,none⟩=some (.slice (some ⟨b,0,none⟩) n n)/\∀j,j<n->h.load ⟨b,j,none⟩=some (.bool (bN M i j)):=by
 have hib:i<bs.length:=by rw[k.lb];exact hi
 have hiM:i<M.length:=by rw[k.lM];exact hi
 have h1:bs[i]? = some bs[i]:=gEl hib
 have h2:M[i]? = some M[i]:=gEl hiM
 obtain ⟨q1,q2⟩:=k.rows i _ _ h1 h2
 refine ⟨_,_,h1,h2,q1,q2,?_,?_⟩
 ·rw[bV k.row,List.getElem?_map,h1];rfl
 ·intro j hj
  rw[aa q1,List.getElem?_map,gEl (by rw[q2];exact hj)]
  simp only[bN,List.getD,h2,Option.getD_some,Option.map_some]
  rw[gEl (by rw[q2];exact hj)]
  rfl
theorem MatR.ext {h1:Hp} (x:Ext h h1) (k:MatR h n0 tb n f bs M):MatR h1 n0 tb n f bs M:=⟨bR (x.toS (S:=fun _=>False)) k.row (fun c=>c),k.lb,k.lM,fun i b L h1 h2=>⟨aj x (k.rows i b L h1 h2).1,(k.rows i b L h1 h2).2⟩,k.dis,k.lo⟩
theorem MatR.put (k:MatR h n0 tb n f bs M) {i j b:Nat} {L:List Bool} (h1:bs[i]? = some b) (h2:M[i]? = some L) (hj:j<n) (v:Bool) :
  h.stores ⟨b,j,none⟩ [.bool v]=some (h.put b (.cells ⟨(L.set j v).map .bool,4,0,0,false⟩))/\MatR (h.put b (.cells ⟨(L.set j v).map .bool,4,0,0,false⟩)) n0 tb n f bs (lW M i j v):=by
 obtain ⟨q1,q2⟩:=k.rows i _ _ h1 h2
 have ht:b≠tb:=lw k.row q1 (by decide)
 have hi:i<M.length:=by
  rcases Nat.lt_or_ge i M.length with h|h
  ·exact h
  ·rw[List.getElem?_eq_none h] at h2;cases h2
 have hg:M.getD i []=L:=by simp[List.getD,h2]
 refine ⟨aE q1 rfl (pd v (by rw[q2];exact hj)) (by simp),bR (S:=aR b) (((Ext.refl h).toS (S:=aR b)).put (b:=b) (.inr rfl) _) k.row (fun c=>ht c.symm),k.lb,by simp[lW,k.lM],?_,k.dis,k.lo⟩
 intro i' b' L' hb' hL'
 simp only[lW,hg,List.getElem?_set] at hL'
 by_cases e:i=i'
 ·subst e
  rw[h1] at hb'
  injection hb' with hb'
  subst hb'
  rw[if_pos rfl,if_pos hi] at hL'
  injection hL' with hL'
  subst hL'
  exact ⟨av q1 _,by simp[q2]⟩
 ·rw[if_neg e] at hL'
  obtain ⟨p1,p2⟩:=k.rows i' _ _ hb' hL'
  refine ⟨dV p1 ?_ _,p2⟩
  intro e2
  subst e2
  exact e (k.dis _ _ _ h1 hb')
theorem xI (M:List (List Bool)) (i j:Nat):lW M i j (bN M i j)=M:=by
 unfold lW bN
 apply List.ext_getElem?
 intro q
 rw[List.getElem?_set]
 split
 ·rename_i e
  subst e
  split
  ·rename_i hq
   rw[gEl hq]
   congr 1
   have hD:M.getD i []=M[i]:=by simp[List.getD,gEl hq]
   rw[hD]
   apply List.ext_getElem?
   intro z
   rw[List.getElem?_set]
   split
   ·rename_i e2
    subst e2
    split
    ·rename_i hz
     rw[gEl hz]
     simp[List.getD,gEl hz]
    ·rename_i hz
     rw[List.getElem?_eq_none (by omega)]
   ·rfl
  ·rename_i hq
   rw[List.getElem?_eq_none (by omega)]
 ·rfl
theorem uY {M:List (List Bool)} {k i j:Nat} (h:bN M i k=false):bw k i j M=M:=by
 unfold bw
 rw[h,Bool.false_and,Bool.or_false]
 exact xI M i j
theorem xJ {M:List (List Bool)} {k i j:Nat} (h:bN (bK (bw k i) j M) i k=false):∀n,j<=n->bK (bw k i) n M=bK (bw k i) j M:=by
 intro n hn
 induction hn with
 | refl=>rfl
 | step hn ih=>rw[bK,ih,uY h]
theorem E6 {k i:Nat} (hk:k<n) (hi:i<n) (hn1:n<=1000) {hA:Hp} (hAn:hA.next=n0) {a:Ev.A} {Q:Ex->Ev.A->Hp->Prop} (hn:a.n=126) (hX:Ext hA h) (hM:MatR h n0 tb n f bs M) {x1 x4:Value}
  (g1:a.get 1=x1) (g4:a.get 4=x4) (g5:a.get 5=.slice (some ⟨tb,0,none⟩) n n) (g8:a.get 8=.int .i64 k) (g9:a.get 9=.int .i64 i) (g10:a.get 10=.int .i64 0)
  (hq:∀a1 h1,a1.n=126->Ext hA h1->MatR h1 n0 tb n f bs (bK (bw k i) n M)->a1.get 1=x1->a1.get 4=x4->a1.get 5=.slice (some ⟨tb,0,none⟩) n n->a1.get 8=.int .i64 k->a1.get 9=.int .i64 i->Q (.exit 6) a1 h1) :
  Th Tryz.prog (aw Tryz.f41 [1,1,1,1,1,0,1,0,0,1,0,0,1,0,0,1,0,0,1,0]) a h Q ⟨⟩ ⟨⟩:=by
 simp only[aw,nav,Tryz.f41]
 refine au (n:=126) (by kernel_rfl) (fun m' a' h'=>∃j:Nat,j<=n/\m'=n - j/\Ext hA h'/\MatR h' n0 tb n f bs (bK (bw k i) j M) /\
  a'.get 1=x1/\a'.get 4=x4/\a'.get 5=.slice (some ⟨tb,0,none⟩) n n/\a'.get 8=.int .i64 k/\a'.get 9=.int .i64 i/\a'.get 10=.int .i64 j) ?_ n _ _ hn ⟨0,lZr _,rfl,hX,hM,g1,g4,g5,g8,g9,g10⟩
 rintro m' a' h' hn' ⟨j,hj,rfl,hx,hM',e1,e4,e5,e8,e9,e10⟩
 by_cases hlt:j<n
 ·have hi1:decide ((j:Int)<(n:Int))=true:=dcT (Int.ofNat_lt.2 hlt)
  obtain ⟨bi,Li,q1,q2,q3,q4,q5,q6⟩:=hM'.at hi
  obtain ⟨bk',Lk,p1,p2,p3,p4,p5,p6⟩:=hM'.at hk
  have q6j:=q6 j hlt
  have q6k:=q6 k hk
  have p6j:=p6 j hlt
  cases hik:bN (bK (bw k i) j M) i k with
  | false =>
    rw[hik] at q6k
    simp -dsimp only[go_sem,ai,e1,e4,e5,e8,e9,e10,hi1,eU hi,bM hk,q5,q6k]
    refine hq _ _ (by simp -dsimp only[go_sem,hn']) hx ?_ (by simp -dsimp only[go_sem,e1]) (by simp -dsimp only[go_sem,e4]) (by simp -dsimp only[go_sem,e5]) (by simp -dsimp only[go_sem,e8]) (by simp -dsimp only[go_sem,e9])
    rw[xJ hik n hj]
    exact hM'
  | true =>
    rw[hik] at q6k
    simp -dsimp only[go_sem,ai,e1,e4,e5,e8,e9,e10,hi1,eU hi,bM hk,q5,q6k]
    refine aD (n:=126) [[],[],[0,1],[0,1,2],[],[],[],[5,6],[5,6,7],[],[5,6,7,8,9],[5,6,7,8,9,10],[5,6,7,8,9,10,11],[5,6,7,8,9,10,11,12],[5,6,7,8,9,10,11,12],[5,6,7,8,9,10,11,12,13,14],[5,6,7,8,9,10,11,12,13,14,15],[5,6,7,8,9,10,11,12],[5,6,7,8,9,10,11,12,13,14,15,16,17],[5,6,7,8,9,10,11,12,13,14,15,16,17,18],[5,6,7,8,9,10,11,12,13,14,15,16,17,18,19],[0,1,2,3,4,5,6,7,8,9,10,11,12,13,14,15,16,17,18,19,20],[0,1,2,3,4,5,6,7,8,9,10,11,12,13,14,15,16,17,18,19,20,21]] (by simp -dsimp only[go_sem,hn']) (by kernel_rfl) ?_
    obtain ⟨s1,s2⟩:=hM'.put q1 q2 hlt (bN (bK (bw k i) j M) i j||(bN (bK (bw k i) j M) i k&&bN (bK (bw k i) j M) k j))
    have hx2:=hx.put (b:=bi) (by rw[hAn];exact hM'.lo.2 _ _ q1) (.cells ⟨(Li.set j (bN (bK (bw k i) j M) i j||(bN (bK (bw k i) j M) i k&&bN (bK (bw k i) j M) k j))).map .bool,4,0,0,false⟩)
    have fin:MatR (h'.put bi (.cells ⟨(Li.set j (bN (bK (bw k i) j M) i j||(bN (bK (bw k i) j M) i k&&bN (bK (bw k i) j M) k j))).map .bool,4,0,0,false⟩)) n0 tb n f bs (bK (bw k i) (j+1) M):=s2
    rw[hik,Bool.true_and] at s1 fin hx2
    cases hij:bN (bK (bw k i) j M) i j with
    | true =>
      rw[hij] at s1 fin q6j hx2
      rw[Bool.true_or] at s1 fin hx2
      simp -dsimp only[go_sem,ai,e1,e4,e5,e8,e9,e10,eU hi,eU hk,bM hlt,bM hk,q5,q6j,p5,p6j,s1,ah hlt (lTr hn1 (by decide))]
      exact ⟨n - (j+1),by omega,j+1,hlt,rfl,hx2,fin,rfl⟩
    | false =>
      rw[hij] at s1 fin q6j hx2
      rw[Bool.false_or] at s1 fin hx2
      simp -dsimp only[go_sem,ai,e1,e4,e5,e8,e9,e10,eU hi,eU hk,bM hlt,bM hk,q5,q6j,p5,p6j,s1,ah hlt (lTr hn1 (by decide))]
      exact ⟨n - (j+1),by omega,j+1,hlt,rfl,hx2,fin,rfl⟩
 ·have hi0:decide ((j:Int)<(n:Int))=false:=dcF (by omega)
  have hjn:j=n:=by omega
  subst hjn
  simp -dsimp only[go_sem,ai,e5,e10,hi0]
  exact hq _ _ (by simp -dsimp only[go_sem,hn']) hx hM' (by simp -dsimp only[go_sem,e1]) (by simp -dsimp only[go_sem,e4]) (by simp -dsimp only[go_sem,e5]) (by simp -dsimp only[go_sem,e8]) (by simp -dsimp only[go_sem,e9])
theorem E7 {k:Nat} (hk:k<n) (hn1:n<=1000) {hA:Hp} (hAn:hA.next=n0) {a:Ev.A} {Q:Ex->Ev.A->Hp->Prop} (hn:a.n=126) (hX:Ext hA h) (hM:MatR h n0 tb n f bs M) {x1 x4:Value}
  (g1:a.get 1=x1) (g4:a.get 4=x4) (g5:a.get 5=.slice (some ⟨tb,0,none⟩) n n) (g8:a.get 8=.int .i64 k) (g9:a.get 9=.int .i64 0)
  (hq:∀a1 h1,a1.n=126->Ext hA h1->MatR h1 n0 tb n f bs (bK (fun i=>bK (bw k i) n) n M)->a1.get 1=x1->a1.get 4=x4->a1.get 5=.slice (some ⟨tb,0,none⟩) n n->a1.get 8=.int .i64 k->Q (.exit 4) a1 h1) :
  Th Tryz.prog (aw Tryz.f41 [1,1,1,1,1,0,1,0,0,1,0,0,1,0]) a h Q ⟨⟩ ⟨⟩:=by
 simp only[aw,nav,Tryz.f41]
 refine au (n:=126) (by kernel_rfl) (fun m' a' h'=>∃j:Nat,j<=n/\m'=n - j/\Ext hA h'/\MatR h' n0 tb n f bs (bK (fun i=>bK (bw k i) n) j M) /\
  a'.get 1=x1/\a'.get 4=x4/\a'.get 5=.slice (some ⟨tb,0,none⟩) n n/\a'.get 8=.int .i64 k/\a'.get 9=.int .i64 j) ?_ n _ _ hn ⟨0,lZr _,rfl,hX,hM,g1,g4,g5,g8,g9⟩
 rintro m' a' h' hn' ⟨j,hj,rfl,hx,hM',e1,e4,e5,e8,e9⟩
 by_cases hlt:j<n
 ·have hi1:decide ((j:Int)<(n:Int))=true:=dcT (Int.ofNat_lt.2 hlt)
  simp -dsimp only[go_sem,e1,e4,e5,e8,e9,hi1]
  refine E6 (x1:=x1) (x4:=x4) hk hlt hn1 hAn (by simp -dsimp only[go_sem,hn']) hx hM' (by simp -dsimp only[go_sem,e1]) (by simp -dsimp only[go_sem,e4]) (by simp -dsimp only[go_sem,e5]) (by simp -dsimp only[go_sem,e8]) (by simp -dsimp only[go_sem,e9]) (by simp -dsimp only[go_sem]) (fun a1 h1 hn1' hx1 hM1 f1 f4 f5 f8 f9 => ?_)
  simp -dsimp only[go_sem,f9,ah hlt (lTr hn1 (by decide))]
  exact ⟨n - (j+1),by omega,j+1,hlt,rfl,hx1,hM1,f1,f4,f5,f8,rfl⟩
 ·have hi0:decide ((j:Int)<(n:Int))=false:=dcF (by omega)
  have hjn:j=n:=by omega
  subst hjn
  simp -dsimp only[go_sem,e5,e9,hi0]
  exact hq _ _ (by simp -dsimp only[go_sem,hn']) hx hM' (by simp -dsimp only[go_sem,e1]) (by simp -dsimp only[go_sem,e4]) (by simp -dsimp only[go_sem,e5]) (by simp -dsimp only[go_sem,e8])
theorem E8 (hn1:n<=1000) {hA:Hp} (hAn:hA.next=n0) {a:Ev.A} {Q:Ex->Ev.A->Hp->Prop} (hn:a.n=126) (hX:Ext hA h) (hM:MatR h n0 tb n f bs M) {x1 x4:Value}
  (g1:a.get 1=x1) (g4:a.get 4=x4) (g5:a.get 5=.slice (some ⟨tb,0,none⟩) n n) (g8:a.get 8=.int .i64 0)
  (hq:∀a1 h1,a1.n=126->Ext hA h1->MatR h1 n0 tb n f bs (pe n M)->a1.get 1=x1->a1.get 4=x4->a1.get 5=.slice (some ⟨tb,0,none⟩) n n->Q (.exit 2) a1 h1) :
  Th Tryz.prog (aw Tryz.f41 [1,1,1,1,1,0,1,0]) a h Q ⟨⟩ ⟨⟩:=by
 simp only[aw,nav,Tryz.f41]
 refine au (n:=126) (by kernel_rfl) (fun m' a' h'=>∃j:Nat,j<=n/\m'=n - j/\Ext hA h'/\MatR h' n0 tb n f bs (bK (fun k=>bK (fun i=>bK (bw k i) n) n) j M) /\
  a'.get 1=x1/\a'.get 4=x4/\a'.get 5=.slice (some ⟨tb,0,none⟩) n n/\a'.get 8=.int .i64 j) ?_ n _ _ hn ⟨0,lZr _,rfl,hX,hM,g1,g4,g5,g8⟩
 rintro m' a' h' hn' ⟨j,hj,rfl,hx,hM',e1,e4,e5,e8⟩
 by_cases hlt:j<n
 ·have hi1:decide ((j:Int)<(n:Int))=true:=dcT (Int.ofNat_lt.2 hlt)
  simp -dsimp only[go_sem,e1,e4,e5,e8,hi1]
  refine E7 (x1:=x1) (x4:=x4) hlt hn1 hAn (by simp -dsimp only[go_sem,hn']) hx hM' (by simp -dsimp only[go_sem,e1]) (by simp -dsimp only[go_sem,e4]) (by simp -dsimp only[go_sem,e5]) (by simp -dsimp only[go_sem,e8]) (by simp -dsimp only[go_sem]) (fun a1 h1 hn1' hx1 hM1 f1 f4 f5 f8 => ?_)
  simp -dsimp only[go_sem,f8,ah hlt (lTr hn1 (by decide))]
  exact ⟨n - (j+1),by omega,j+1,hlt,rfl,hx1,hM1,f1,f4,f5,rfl⟩
 ·have hi0:decide ((j:Int)<(n:Int))=false:=dcF (by omega)
  have hjn:j=n:=by omega
  subst hjn
  simp -dsimp only[go_sem,e5,e8,hi0]
  exact hq _ _ (by simp -dsimp only[go_sem,hn']) hx hM' (by simp -dsimp only[go_sem,e1]) (by simp -dsimp only[go_sem,e4]) (by simp -dsimp only[go_sem,e5])
end
section
variable {r:Ro}
structure MatS (h:Hp) (n0 n i:Nat) (bs:List Nat) (M:List (List Bool)):Prop where
 lb:bs.length=i
 lM:M.length=i
 rows:∀(j b:Nat) (L:List Bool),bs[j]? = some b->M[j]? = some L->h.own b 4 (L.map .bool)/\L.length=n
 dis:∀i j b:Nat,bs[i]? = some b->bs[j]? = some b->i=j
 lo:∀i b:Nat,bs[i]? = some b->n0<=b/\b<h.next
theorem lx {α:Type} {l:List α} {x y:α} {i:Nat} (h:(l++[x])[i]? = some y):l[i]? = some y\/(i=l.length/\y=x):=by
 rcases Nat.lt_or_ge i l.length with c|c
 ·rw[List.getElem?_append_left c] at h;exact .inl h
 ·rw[List.getElem?_append_right c] at h
  cases hj:i - l.length with
  | zero=>rw[hj] at h;simp at h;exact .inr ⟨by omega,h.symm⟩
  | succ q=>rw[hj] at h;simp at h
theorem B5 {α:Type} {l:List α} {i:Nat} {x:α} (h:l[i]? = some x):i<l.length:=(List.getElem?_eq_some_iff.1 h).1
theorem MatS.more {h h1:Hp} {n0 n i:Nat} {bs:List Nat} {M:List (List Bool)} (k:MatS h n0 n i bs M) (hk:∀b' e' c',e'≠58->h.own b' e' c'->h1.own b' e' c') (hnx:h.next<=h1.next) {b:Nat} {L:List Bool} (hb:h.next<=b) (hn0:n0<=b) (ho:h1.own b 4 (L.map .bool)) (hL:L.length=n):MatS h1 n0 n (i+1) (bs++[b]) (M++[L]):=by
 refine ⟨by simp[k.lb],by simp[k.lM],?_,?_,?_⟩
 ·intro j b' L' h1' h2'
  rcases lx h1' with c|⟨c1,c2⟩
  ·rw[List.getElem?_append_left (by have:=B5 c;rw[k.lM,<-k.lb];exact this)] at h2'
   obtain ⟨p1,p2⟩:=k.rows j b' L' c h2'
   exact ⟨hk _ _ _ (by decide) p1,p2⟩
  ·subst c2
   rw[c1,k.lb,<-k.lM] at h2'
   simp at h2'
   subst h2'
   exact ⟨ho,hL⟩
 ·intro x y b' h1' h2'
  rcases lx h1' with c|⟨c1,c2⟩<;>rcases lx h2' with d|⟨d1,d2⟩
  ·exact k.dis _ _ _ c d
  ·subst d2;have:=(k.lo _ _ c).2;omega
  ·subst c2;have:=(k.lo _ _ d).2;omega
  ·omega
 ·intro x b' h1'
  rcases lx h1' with c|⟨c1,c2⟩
  ·have:=k.lo _ _ c;exact ⟨this.1,lTl this.2 hnx⟩
  ·subst c2;exact ⟨hn0,ho.2.1⟩
theorem B6 {l:List ar} {Av:Option Addr} {c b o gp eb:Nat} {css:Nat->List Value} (R:bd r l Av c b o css) (hrg:∀(i:Nat) (x:ar),l[i]? = some x->ay (nms l) x.body=true) {em:List Bool} (hel:em.length=l.length)
  {hA:Hp} (hrom:hA.rom=r) (hbA:hA.base<=hA.next) (hE:hA.own eb 4 (em.map .bool)) (hP:hA.own gp 24 [.slice Av l.length c]) {a:Ev.A} {Q:Ex->Ev.A->Hp->Prop} (hn:a.n=126)
  (g1:a.get 1=.pointer (some ⟨gp,0,none⟩)) (g4:a.get 4=.slice (some ⟨eb,0,none⟩) l.length l.length) (g5:a.get 5=.slice none 0 0) (g6:a.get 6=.int .i64 0)
  (hq:∀a1 h1 bs v,a1.n=126->Ext hA h1->MatS h1 hA.next l.length l.length bs (l.map (gn l em))->OwnE 58 h1 hA.next hA.nfam (bs.map fun b=>.slice (some ⟨b,0,none⟩) l.length l.length) v->a1.get 1=.pointer (some ⟨gp,0,none⟩)->a1.get 4=.slice (some ⟨eb,0,none⟩) l.length l.length->a1.get 5=v->Q (.exit 0) a1 h1) :
  Th Tryz.prog (aw Tryz.f41 [1,1,1,1,0,1,0]) a hA Q ⟨⟩ ⟨⟩:=by
 simp only[aw,nav,Tryz.f41]
 refine au (n:=126) (by kernel_rfl) (fun m' a' h'=>∃(j:Nat) (bs:List Nat) (v:Value),j<=l.length/\m'=l.length - j/\Ext hA h'/\MatS h' hA.next l.length j bs ((l.take j).map (gn l em))/\OwnE 58 h' hA.next hA.nfam (bs.map fun b=>.slice (some ⟨b,0,none⟩) l.length l.length) v /\
  a'.get 1=.pointer (some ⟨gp,0,none⟩)/\a'.get 4=.slice (some ⟨eb,0,none⟩) l.length l.length/\a'.get 5=v/\a'.get 6=.int .i64 j) ?_ l.length _ _ hn ⟨0,[],_,lZr _,rfl,Ext.refl _,⟨rfl,rfl,fun _ _ _ e=>by simp at e,fun _ _ _ e=>by simp at e,fun _ _ e=>by simp at e⟩,.inl ⟨rfl,rfl⟩,g1,g4,g5,g6⟩
 rintro m' a' h' hn' ⟨j,bs,v,hj,rfl,hx,hM',hO',e1,e4,e5,e6⟩
 have hrom':h'.rom=r:=hx.rom.trans hrom
 have hb':h'.base<=h'.next:=by rw[hx.base];exact lTr hbA hx.next
 have hP':=aj hx hP
 by_cases hlt:j<l.length
 ·have hi1:decide ((j:Int)<(l.length:Int))=true:=dcT (Int.ofNat_lt.2 hlt)
  have hpi:l[j]? = some l[j]:=gEl hlt
  obtain ⟨Av1,c1',hcs⟩:=(R.hk j _ hpi).shape
  have hat':=R.hat j _ hpi
  have hkid:=R.hk j _ hpi
  rw[hcs] at hat' hkid
  have hat2:=dY hat'
  have hAv:=R.hA (aO hlt)
  subst hAv
  have hT:=an hb' 4 ((List.replicate l.length false).map .bool)
  have hX3:=Ext.new h' (ak.cells { c:=(List.replicate l.length false).map Value.bool,e:=4,fam:=0,base:=0,grown:=false })
  have hb3:=Nat.le_succ_of_le hb'
  have hP3:=aj hX3 hP'
  have hE3:=aj (hx.trans hX3) hE
  simp -dsimp only[go_sem,e1,e4,e5,e6,hi1,aa hP',jS l.length l.length (lRf _) R.hb,cl]
  generalize hg3:h'.newH (ak.cells { c:=(List.replicate l.length false).map Value.bool,e:=4,fam:=0,base:=0,grown:=false })=h3 at hT hX3 hP3 hE3 ⊢
  have hb3':h3.base<=h3.next:=by rw[hX3.base];exact lTr hb' hX3.next
  have hen:eb≠h'.next:=by have:=hE.2.1;have:=hx.next;omega
  obtain ⟨_,h5,hs5,rfl,hx5,hown5⟩:=Dp R (em:=em) (eb:=eb) (tb:=h'.next) hel hen _ l[j].body (lSs _) h3 _ (List.replicate l.length false) (hX3.rom.trans hrom') hb3' hE3 hkid (hrg j _ hpi) hT (by simp)
  refine aD (n:=126) [[],[],[],[2],[],[2,3,4],[2,3,4,5],[2,3,4,5,6],[],[0,1,2,3,4,5,6,7,8]] (by simp -dsimp only[go_sem,hn']) (by kernel_rfl) ?_
  simp -dsimp only[go_sem,e1,e4,e5,e6,af hP3,aa hP3,eQ hlt,az (n:=3) (hX3.rom.trans hrom') hat2 rfl,ab R.hs,ab hkid.same]
  refine ⟨_,h5,hs5,?_⟩
  have hx35:Ext h' h5:=(hX3.toS.trans hx5).ext (fun q hq hs=>by
   have:q=h'.next:=hs
   omega)
  have hb5:h5.base<=h5.next:=by rw[hx35.base];exact lTr hb' hx35.next
  have hW:=an hb5 58 [.slice (some ⟨h'.next,0,none⟩) l.length l.length]
  have hX6:=Ext.new h5 (ak.cells ⟨[.slice (some ⟨h'.next,0,none⟩) l.length l.length],58,0,0,false⟩)
  have hO6:=(hO'.ext hx35).ext hX6
  have hx56:=hx35.trans hX6
  have hx06:=hx.trans hx56
  obtain ⟨v',h7,ha7,hO7,hext7,hk7,hn7⟩:=Dq rfl hO6 hW (by rw[hx06.base];exact lTr hbA hx06.next) hx06.next hx06.nfam (by rw[List.length_map,hM'.lb];exact lTr hj (lTr R.hb (by decide)))
  have hx7:Ext hA h7:=(hext7 (fun _=>False) hA (hx06.toS) (lRf _) (lRf _)).ext (fun _ _ c=>c)
  simp -dsimp only[go_sem,e1,e4,e5,e6,D2 1 (by decide),aC,bP,ha7,ah hlt (lTr R.hb (by decide))]
  have htk:(l.take (j+1)).map (gn l em)=(l.take j).map (gn l em)++[gn l em l[j]]:=by
   rw[List.take_succ_eq_append_getElem hlt,List.map_append];rfl
  refine ⟨l.length - (j+1),by omega,j+1,bs++[h'.next],v',hlt,rfl,hx7,?_,?_,rfl,rfl⟩
  ·rw[htk]
   have hL:(gn l em l[j]).length=l.length:=by unfold gn;rw[bY];simp
   exact hM'.more (fun b' e' c' hne ho=>hk7 _ _ _ hne (aj hx56 ho)) (lTr hx56.next hn7) (lRf _) hx.next (hk7 _ _ _ (by decide) (aj hX6 hown5)) hL
  ·rw[List.map_append];exact hO7
 ·have hi0:decide ((j:Int)<(l.length:Int))=false:=dcF (by omega)
  have hjn:j=l.length:=by omega
  subst hjn
  rw[List.take_length] at hM'
  simp -dsimp only[go_sem,e1,e6,hi0,aa hP']
  exact hq _ _ bs v (by simp -dsimp only[go_sem,hn']) hx hM' hO' (by simp -dsimp only[go_sem,e1]) (by simp -dsimp only[go_sem,e4]) (by simp -dsimp only[go_sem,e5])
def d5:List ar->List Bool->List ByteArray
 | x::l,b::bs=>if b then x.name::d5 l bs else d5 l bs
 | _,_=>[]
theorem pj:∀(l:List ar) (bs:List Bool) (i:Nat) (hi:i<l.length) (hb:i<bs.length),d5 (l.take (i+1)) (bs.take (i+1))=d5 (l.take i) (bs.take i)++(if bs[i] then [l[i].name] else [])
 | x::l,b::bs,0,_,_=>by
   simp only[List.take_succ_cons,List.take_zero,d5,List.getElem_cons_zero,List.nil_append]
 | x::l,b::bs,i+1,hi,hb=>by
   have ih:=pj l bs i (by simpa using hi) (by simpa using hb)
   simp only[List.take_succ_cons,d5,List.getElem_cons_succ] at ih ⊢
   rw[ih]
   cases b<;>simp
 | [],_,_,hi,_=>absurd hi (lNz _)
 | _::_,[],_,_,hb=>absurd hb (lNz _)
theorem Ds {l:List ar} {Av:Option Addr} {c b o gp eb tb f:Nat} {css:Nat->List Value} (R:bd r l Av c b o css) (hnm:∀(i:Nat) (x:ar),l[i]? = some x->dm (nms l) x.body) {em:List Bool} (hel:em.length=l.length)
  {hA h:Hp} {n0 f0:Nat} {bs:List Nat} (hrom:hA.rom=r) (hbA:hA.base<=hA.next) (hn0:n0=hA.next) (hf0:f0=hA.nfam) (hE:hA.own eb 4 (em.map .bool)) (hP:hA.own gp 24 [.slice Av l.length c]) (hX:Ext hA h) (hM:MatR h n0 tb l.length f bs (eO l em)) {a:Ev.A} {Q:Ex->Ev.A->Hp->Prop} (hn:a.n=126)
  (g1:a.get 1=.pointer (some ⟨gp,0,none⟩)) (g4:a.get 4=.slice (some ⟨eb,0,none⟩) l.length l.length) (g5:a.get 5=.slice (some ⟨tb,0,none⟩) l.length l.length) (g11:a.get 11=.slice none 0 0) (g12:a.get 12=.int .i64 0)
  (hq:∀a1 h1 v,a1.n=126->Ext hA h1->OwnE 9 h1 h.next h.nfam ((d5 l (eT l em)).map .string) v->a1.get 11=v->Q (.exit 8) a1 h1) :
  Th Tryz.prog (aw Tryz.f41 [1,1,1,1,1,1,1,0,1,0]) a h Q ⟨⟩ ⟨⟩:=by
 simp only[aw,nav,Tryz.f41]
 refine au (n:=126) (by kernel_rfl) (fun m' a' h'=>∃(j:Nat) (v:Value),j<=l.length/\m'=l.length - j/\Ext h h'/\OwnE 9 h' h.next h.nfam ((d5 (l.take j) ((eT l em).take j)).map .string) v /\
  a'.get 1=.pointer (some ⟨gp,0,none⟩)/\a'.get 4=.slice (some ⟨eb,0,none⟩) l.length l.length/\a'.get 5=.slice (some ⟨tb,0,none⟩) l.length l.length/\a'.get 11=v/\a'.get 12=.int .i64 j) ?_ l.length _ _ hn ⟨0,_,lZr _,rfl,Ext.refl _,.inl ⟨by simp[d5],rfl⟩,g1,g4,g5,g11,g12⟩
 rintro m' a' h' hn' ⟨j,v,hj,rfl,hx,hO',e1,e4,e5,e11,e12⟩
 have hxA:=hX.trans hx
 have hrom':h'.rom=r:=hxA.rom.trans hrom
 have hb':h'.base<=h'.next:=by rw[hxA.base];exact lTr hbA hxA.next
 have hP':=aj hxA hP
 have hE':=aj hxA hE
 have hM':=hM.ext hx
 by_cases hlt:j<l.length
 ·have hi1:decide ((j:Int)<(l.length:Int))=true:=dcT (Int.ofNat_lt.2 hlt)
  have hpi:l[j]? = some l[j]:=gEl hlt
  obtain ⟨Av1,c1',hcs⟩:=(R.hk j _ hpi).shape
  have hat':=R.hat j _ hpi
  have hkid:=R.hk j _ hpi
  rw[hcs] at hat' hkid
  have hat2:=dY hat'
  have hAv:=R.hA (aO hlt)
  subst hAv
  obtain ⟨bj,Lj,q1,q2,q3,q4,q5,q6⟩:=hM'.at hlt
  have q6j:=q6 j hlt
  have hjr:j<(eT l em).length:=by rw[gQ];exact hlt
  have hrq:(eT l em)[j]=(bN (eO l em) j j||fX (emf (nms l) em) l[j].body):=by simp[eT]
  have hsn:=pj l (eT l em) j hlt hjr
  have hld:∀{h3:Hp},h3.rom=r->h3.load ⟨b,o+j*4,none⟩=some (.string l[j].name):=by
   intro h3 h3r
   have:=ky h3r hat' (j:=0) (v:=.string l[j].name) rfl
   simpa using this
  have next:∀{h3:Hp},Ext h' h3->(eT l em)[j]=true->∃v' h7,bt Tryz.prog (h3.newH (ak.cells ⟨[.string l[j].name],9,0,0,false⟩)) [34,34] [v,.slice (some ⟨h3.next,0,none⟩) 1 1]=some (v',h7)/\Ext h h7/\OwnE 9 h7 h.next h.nfam ((d5 (l.take (j+1)) ((eT l em).take (j+1))).map .string) v':=by
   intro h3 hx3 hrt
   have hb3:h3.base<=h3.next:=by rw[hx3.base];exact lTr hb' hx3.next
   have hW:=an hb3 9 [.string l[j].name]
   have hX6:=Ext.new h3 (ak.cells ⟨[.string l[j].name],9,0,0,false⟩)
   have hx06:=hx.trans (hx3.trans hX6)
   have hplen:((d5 (l.take j) ((eT l em).take j)).map Value.string).length<=100000:=by
    have:∀(l:List ar) (bs:List Bool),(d5 l bs).length<=l.length:=by
     intro l
     induction l with
     | nil=>intro bs;simp[d5]
     | cons x l ih=>intro bs;cases bs with
       | nil=>simp[d5]
       | cons b bs=>simp only[d5];have:=ih bs;cases b<;>simp<;>omega
    have h9:=this (l.take j) ((eT l em).take j)
    rw[List.length_take] at h9
    rw[List.length_map]
    have:=R.hb
    omega
   obtain ⟨v',h7,ha7,hO7,hext7,hk7,hn7⟩:=Ec rfl ((hO'.ext hx3).ext hX6) hW (by rw[hX6.base];exact lTr hb3 hX6.next) hx06.next hx06.nfam hplen
   refine ⟨v',h7,ha7,(hext7 (fun _=>False) h (hx06.toS) (lRf _) (lRf _)).ext (fun _ _ c=>c),?_⟩
   rw[hsn,hrt]
   simpa using hO7
  have stay:(eT l em)[j]=false->d5 (l.take (j+1)) ((eT l em).take (j+1))=d5 (l.take j) ((eT l em).take j):=by
   intro e
   rw[hsn,e]
   simp
  simp -dsimp only[go_sem,e1,e4,e5,e11,e12,hi1]
  refine aD (n:=126) [[],[],[0,1],[0,1,2],[],[0,1,2,3,4],[0,1,2,3,4,5],[0,1,2,3,4,5,6],[0,1,2,3,4,5,6,7],[0,1,2,3,4,5,6,7],[0,1,2,3,4,5,6,7],[0,1,2,3,4,5,6,7,10],[0,1,2,3,4,5,6,7],[0,1,2,3,4,5,6,7,10,11,12],[0,1,2,3,4,5,6,7,10,11,12,13],[0,1,2,3,4,5,6,7,10,11,12,13,14],[0,1,2,3,4,5,6,7,8,9,10,11,12,13,14,15],[0,1,2,3,4,5,6,7,8,9,10,11,12,13,14,15,16]] (by simp -dsimp only[go_sem,hn']) (by kernel_rfl) ?_
  cases hjj:bN (eO l em) j j with
  | true =>
    rw[hjj] at q6j hrq
    rw[Bool.true_or] at hrq
    obtain ⟨v',h7,ha7,hx7,hO7⟩:=next (Ext.refl h') hrq
    rw[<-e11] at ha7
    simp -dsimp only[go_sem,ai,e1,e4,e5,e12,eQ hlt,eU hlt,bM hlt,q5,q6j,aa hP',hld hrom',xG 1 (by decide),aC,bP,ha7,ah hlt (lTr R.hb (by decide))]
    exact ⟨l.length - (j+1),by omega,j+1,v',hlt,rfl,hx7,hO7,rfl,rfl⟩
  | false =>
    rw[hjj] at q6j hrq
    rw[Bool.false_or] at hrq
    obtain ⟨_,h5,hs5,rfl,hx5⟩:=B3 R (em:=em) (eb:=eb) hel _ l[j].body (lSs _) h' _ hrom' hb' hE' hkid (hnm j _ hpi)
    simp -dsimp only[go_sem,ai,e1,e4,e5,e12,eQ hlt,eU hlt,bM hlt,q5,q6j,aa hP',af hP',az (n:=3) hrom' hat2 rfl,ab R.hs,ab hkid.same]
    refine ⟨_,h5,hs5,?_⟩
    simp -dsimp only[go_sem,ai]
    cases hid:fX (emf (nms l) em) l[j].body with
    | true =>
      rw[hid] at hrq
      obtain ⟨v',h7,ha7,hx7,hO7⟩:=next hx5 hrq
      rw[<-e11] at ha7
      simp -dsimp only[go_sem,ai,e1,e4,e5,e12,eQ hlt,aa (aj hx5 hP'),hld (hx5.rom.trans hrom'),xG 1 (by decide),aC,bP,ha7,ah hlt (lTr R.hb (by decide))]
      exact ⟨l.length - (j+1),by omega,j+1,v',hlt,rfl,hx7,hO7,rfl,rfl⟩
    | false =>
      rw[hid] at hrq
      simp -dsimp only[go_sem,ai,e1,e4,e5,e12,ah hlt (lTr R.hb (by decide))]
      refine ⟨l.length - (j+1),by omega,j+1,v,hlt,rfl,hx.trans hx5,?_,e11,rfl⟩
      rw[stay hrq]
      exact hO'.ext hx5
 ·have hi0:decide ((j:Int)<(l.length:Int))=false:=dcF (by omega)
  have hjn:j=l.length:=by omega
  subst hjn
  simp -dsimp only[go_sem,e5,e12,hi0]
  refine hq _ _ v (by simp -dsimp only[go_sem,hn']) hxA ?_ (by simp -dsimp only[go_sem,e11])
  rw[List.take_length,List.take_of_length_le (by rw[gQ];exact lRf _)] at hO'
  exact hO'
end
section
variable {r:Ro}
def Fa (l:List ar) (h:Hp) (v:Value) (h1:Hp):Prop:=Ext h h1/\(if co l=true then ∃(em:List Bool) (nv:Value) (n0 f0:Nat),Found l em/\v=.tuple #[nv,.int .i64 0]/\h.next<=n0/\h.nfam<=f0/\OwnE 9 h1 n0 f0 ((d5 l (eT l em)).map .string) nv
 else v=.tuple #[.slice none 0 0,.int .i64 240])
theorem Aj {l:List ar} {Av:Option Addr} {c b o:Nat} {css:Nat->List Value} (R:bd r l Av c b o css) (hft:lp l) (h:Hp) (hrom:h.rom=r) (hb:h.base<=h.next) :
  ∃v h1,Snd Tryz.prog 41 [.agg #[.slice Av l.length c]] h v h1/\Fa l h v h1:=by
 refine aL wf Tryz.func41 rfl rfl (n:=126) rfl (by kernel_rfl) rfl ?_
 intro a hn hg
 have hr:Tryz.f41.results.toList=[.tmp 2,.tmp 3]:=rfl
 have g0:=hg 0
 clear hg
 simp only[gC0,gC1] at g0
 have hP:=an hb 24 [.slice Av l.length c]
 have hx0:=Ext.new h (ak.cells ⟨[.slice Av l.length c],24,0,0,false⟩)
 have hb0:=Nat.le_succ_of_le (m:=h.next) hb
 simp -dsimp only[go_sem,g0,af hP]
 generalize h.newH (ak.cells ⟨[.slice Av l.length c],24,0,0,false⟩)=h2 at hP hx0 ⊢
 have hb2:h2.base<=h2.next:=by rw[hx0.base];exact lTr hb hx0.next
 obtain ⟨_,h3,hs3,rfl,hx3⟩:=tE R hft h2 (hx0.rom.trans hrom) hb2
 refine ⟨_,h3,hs3,?_⟩
 rw[rL]
 have hP3:=aj hx3 hP
 have hx03:=hx0.trans hx3
 have hb3:h3.base<=h3.next:=by rw[hx03.base];exact lTr hb hx03.next
 cases hrg:co l with
 | false =>
   simp -dsimp only[go_sem,hr]
   exact ⟨hx03,by rw[if_neg (by rw[hrg];simp)]⟩
 | true =>
   obtain ⟨hfr,hnm⟩:=iz hrg
   have hrl:dv (nms l) l=true:=by
    have:=hrg
    rw[co,Bool.and_eq_true,Bool.and_eq_true] at this
    exact this.2
   have hpos:0<l.length:=by
    have:=hrg
    rw[co,Bool.and_eq_true,Bool.and_eq_true] at this
    have:=this.1.2
    simp at this
    exact List.length_pos_iff.2 this
   simp -dsimp only[go_sem,af hP3]
   obtain ⟨_,h4,hs4,hx4,eb,em,rfl,heb,hE,hel,hF⟩:=xH R hnm h3 (hx03.rom.trans hrom) hb3
   refine ⟨_,h4,hs4,?_⟩
   have hx04:=hx03.trans hx4
   have hb4:h4.base<=h4.next:=by rw[hx04.base];exact lTr hb hx04.next
   have hP4:=aj hx4 hP3
   try simp -dsimp only[go_sem]
   refine B6 R (ew hrl) (em:=em) (eb:=eb) (gp:=h.next) hel (hx04.rom.trans hrom) hb4 hE hP4 (by simp -dsimp only[go_sem,hn]) (by simp -dsimp only[go_sem]) (by simp -dsimp only[go_sem]) (by simp -dsimp only[go_sem]) (by simp -dsimp only[go_sem]) (fun a5 h5 bs v5 hn5 hx5 hM5 hO5 f1 f4 f5 => ?_)
   try simp -dsimp only[go_sem]
   rcases hO5 with ⟨e0,_⟩|⟨tb,f,hne,rfl,hrow,htb,hf⟩
   ·exfalso
    have:=congrArg List.length e0
    rw[List.length_map,hM5.lb,List.length_nil] at this
    omega
   rw[List.length_map,hM5.lb] at f5
   have hMR:MatR h5 h4.next tb l.length f bs (l.map (gn l em)):=⟨hrow,hM5.lb,hM5.lM,hM5.rows,hM5.dis,htb,fun i b e=>(hM5.lo i b e).1⟩
   refine E8 R.hb (hA:=h4) rfl (x1:=.pointer (some ⟨h.next,0,none⟩)) (x4:=.slice (some ⟨eb,0,none⟩) l.length l.length) (by simp -dsimp only[go_sem,hn5]) hx5 hMR (by simp -dsimp only[go_sem,f1]) (by simp -dsimp only[go_sem,f4]) (by simp -dsimp only[go_sem,f5]) (by simp -dsimp only[go_sem]) (fun a6 h6 hn6 hx6 hM6 k1 k4 k5 => ?_)
   simp -dsimp only[go_sem]
   refine Ds R hnm (em:=em) (eb:=eb) (gp:=h.next) hel (hA:=h4) (hx04.rom.trans hrom) hb4 rfl rfl hE hP4 hx6 hM6 (by simp -dsimp only[go_sem,hn6]) (by simp -dsimp only[go_sem,k1]) (by simp -dsimp only[go_sem,k4]) (by simp -dsimp only[go_sem,k5]) (by simp -dsimp only[go_sem]) (by simp -dsimp only[go_sem]) (fun a7 h7 v7 hn7 hx7 hO7 q11 => ?_)
   simp -dsimp only[go_sem,q11,hr]
   refine ⟨hx04.trans hx7,?_⟩
   rw[if_pos hrg]
   exact ⟨em,v7,_,_,hF,rfl,lTr hx04.next hx6.next,lTr hx04.nfam hx6.nfam,hO7⟩
theorem qH:∀(l:List ar) (bs:List Bool),bs.length=l.length->decide ((d5 l bs).length=0) = !bs.any (true == ·)
 | [],[],_=>rfl
 | x::l,b::bs,h=>by
   have ih:=qH l bs (by simpa using h)
   cases b
   ·simpa[d5] using ih
   ·simp[d5]
def Ed (l:List ar) (h:Hp) (v:Value) (h1:Hp):Prop:=Ext h h1/\(if co l=true then ∃em:List Bool,Found l em/\v=.bool (mI l em) else v=.bool false)
theorem xK {l:List ar} {Av:Option Addr} {c b o:Nat} {css:Nat->List Value} (R:bd r l Av c b o css) (hft:lp l) (h:Hp) (hrom:h.rom=r) (hb:h.base<=h.next) :
  ∃v h1,Snd Tryz.prog 18 [.agg #[.slice Av l.length c]] h v h1/\Ed l h v h1:=by
 refine aL wf Tryz.func18 rfl rfl (n:=17) rfl (by kernel_rfl) rfl ?_
 intro a hn hg
 have hr:Tryz.f18.results.toList=[.tmp 2]:=rfl
 have g0:=hg 0
 clear hg
 simp only[gC0,gC1] at g0
 have hP:=an hb 24 [.slice Av l.length c]
 have hx0:=Ext.new h (ak.cells ⟨[.slice Av l.length c],24,0,0,false⟩)
 simp -dsimp only[go_sem,g0,af hP]
 generalize h.newH (ak.cells ⟨[.slice Av l.length c],24,0,0,false⟩)=h2 at hP hx0 ⊢
 have hb2:h2.base<=h2.next:=by rw[hx0.base];exact lTr hb hx0.next
 obtain ⟨_,h3,hs3,hx3,hv⟩:=Aj R hft h2 (hx0.rom.trans hrom) hb2
 refine ⟨_,h3,hs3,?_⟩
 by_cases hrg:co l=true
 ·rw[if_pos hrg] at hv
  obtain ⟨em,nv,n0,f0,hF,rfl,_,_,hO⟩:=hv
  obtain ⟨A,rfl⟩:=hO.len
  have h00:decide ((0:Int)=0)=true:=rfl
  simp -dsimp only[go_sem,ai,h00,decide_true,hr]
  refine ⟨hx0.trans hx3,?_⟩
  rw[if_pos hrg]
  refine ⟨em,hF,?_⟩
  rw[mI,<-qH l _ (gQ l em),List.length_map]
  congr 1
  rw[decide_eq_decide]
  omega
 ·rw[if_neg hrg] at hv
  subst hv
  have h24:decide ((240:Int)=0)=false:=rfl
  simp -dsimp only[go_sem,ai,h24,hr]
  exact ⟨hx0.trans hx3,by rw[if_neg hrg]⟩
end
section
variable {h h1 h2:Hp} {e:TypeId}
def l6 (h:Hp) (v:Value) (ds:List Value):Prop:=d7 v=some ds.length/\bS h 1 ds.length v=some ds
theorem OwnE.src {n0 f0:Nat} {cs:List Value} {v:Value} (k:OwnE e h n0 f0 cs v):l6 h v cs:=by
 rcases k with ⟨rfl,rfl⟩|⟨b,f,hl,rfl,hr,hb0,hf⟩
 ·exact ⟨rfl,rfl⟩
 ·refine ⟨rfl,?_⟩
  simp only[bS,cB hr,List.drop_zero,Nat.mul_one]
  exact dB _
def pm (e:TypeId) (h:Hp) (n0 f0:Nat) (h':Hp):Prop:=(∀(S:Nat->Prop) (h0:Hp),ExtS S h0 h->h0.next<=n0->h0.nfam<=f0->ExtS S h0 h') /\
 (∀b' e' c',e'≠e->h.own b' e' c'->h'.own b' e' c')/\h.next<=h'.next
def tG (h h':Hp):Prop:=h'.base=h.base/\h.nfam<=h'.nfam/\∀b' o,b'<h.next->h.objs.get b'=some o->(∀r,o≠.cells r)->h'.objs.get b'=some o
end
def dw (l:List ByteArray):List Value:=l.map Value.string
theorem cp (l:List ByteArray):(dw l).length=l.length:=List.length_map _
def StrsAt (h:Hp) (v:Value) (ss:List ByteArray):Prop:=∃A c,v=.slice A ss.length c/\spotless A=true/\(ss≠[]->∃b o,A=some ⟨b,o,none⟩/\∀(i:Nat) (s:ByteArray),ss[i]? = some s->h.load ⟨b,o+i,none⟩=some (.string s))
theorem OwnE.strsAt {h:Hp} {n0 f0:Nat} {ss:List ByteArray} {v:Value} (k:OwnE 9 h n0 f0 (dw ss) v):StrsAt h v ss:=by
 rcases k with ⟨e,rfl⟩|⟨b,f,hl,rfl,hr,hb0,hf⟩
 ·have:ss=[]:=List.map_eq_nil_iff.1 e
  subst this
  exact ⟨none,0,rfl,rfl,fun c=>absurd rfl c⟩
 ·refine ⟨some ⟨b,0,none⟩,(dw ss).length,by rw[cp],rfl,fun _=>⟨b,0,rfl,fun i s hi => ?_⟩⟩
  rw[bV hr,Nat.zero_add]
  unfold dw
  rw[List.getElem?_map,hi]
  rfl
theorem RoStrs.strsAt {h:Hp} {r:Ro} {items:List ByteArray} {Iv:Option Addr} {c b o:Nat} (R:RoStrs r items Iv c b o) (hr:h.rom=r):StrsAt h (.slice Iv items.length c) items:=by
 refine ⟨Iv,c,rfl,R.hs,fun e=>⟨b,o,R.hA e,fun i s hi => ?_⟩⟩
 exact ky (j:=0) hr (R.hat i s hi) rfl
def pn (a b:List ByteArray):Bool:=decide (a.map (fun s=>s.data.toList)=b.map (fun s=>s.data.toList))
theorem u4 (a:List ByteArray):pn a a=true:=dcT rfl
theorem tH {a b:List ByteArray} {v u:Value} (h:Hp) (ha:StrsAt h v a) (hb:StrsAt h u b) (hl:a.length<=1000000):∃w h1,Snd Tryz.prog 9 [v,u] h w h1/\w=.bool (pn a b)/\h1=h:=by
 obtain ⟨A,c,rfl,hsA,hA⟩:=ha
 obtain ⟨B,d,rfl,hsB,hB⟩:=hb
 refine aL wf Tryz.func9 rfl rfl (n:=26) rfl (by kernel_rfl) rfl ?_
 intro ac hn hg
 have hr:Tryz.f9.results.toList=[.tmp 4]:=rfl
 have g0:=hg 0
 have g1:=hg 1
 clear hg
 simp only[gC0,gC1] at g0 g1
 by_cases hlen:a.length=b.length
 rotate_left
 ·have k1:decide ((a.length:Int)=(b.length:Int))=false:=dcF (by omega)
  have e:pn a b=false:=by
   unfold pn
   refine dcF (fun c=>hlen ?_)
   have:=congrArg List.length c
   simpa using this
  simp -dsimp only[go_sem,g0,g1,k1,hr,e,Bool.not_false]
 have k1:decide ((a.length:Int)=(b.length:Int))=true:=dcT (by omega)
 simp -dsimp only[go_sem,g0,g1,k1,Bool.not_true]
 refine au (n:=26) (by kernel_rfl) (fun m' a' h'=>∃i:Nat,i<=a.length/\m'=a.length - i/\h'=h/\(a.take i).map (fun s=>s.data.toList)=(b.take i).map (fun s=>s.data.toList) /\
  a'.get 0=.slice A a.length c/\a'.get 1=.slice B b.length d/\a'.get 12=.int .i64 (a.length:Int)/\a'.get 13=.int .i64 (i:Int)) ?_ a.length _ _ (by simp -dsimp only[go_sem,hn]) ⟨0,lZr _,rfl,rfl,rfl,by simp -dsimp only[go_sem,g0],by simp -dsimp only[go_sem,g1],by simp -dsimp only[go_sem],by simp -dsimp only[go_sem];rfl⟩
 rintro m' a' h' hn' ⟨i,hi,rfl,rfl,hst,e0,e1,e12,e13⟩
 by_cases hlt:i<a.length
 rotate_left
 ·have hi0:decide ((i:Int)<(a.length:Int))=false:=dcF (by omega)
  have:i=a.length:=by omega
  subst this
  rw[List.take_length,hlen,List.take_length] at hst
  have e:pn a b=true:=dcT hst
  simp -dsimp only[go_sem,e12,e13,hi0,hr,e]
 have hltb:i<b.length:=by omega
 have hi1:decide ((i:Int)<(a.length:Int))=true:=dcT (Int.ofNat_lt.2 hlt)
 obtain ⟨ba,oa,rfl,ha2⟩:=hA (aO hlt)
 obtain ⟨bb,ob,rfl,hb2⟩:=hB (aO hltb)
 have la:=ha2 i _ (gEl hlt)
 have lb:=hb2 i _ (gEl hltb)
 simp -dsimp only[go_sem,e0,e1,e12,e13,hi1]
 refine iN (n:=26) (by simp -dsimp only[go_sem,hn']) (by kernel_rfl) (by kernel_rfl) ?_
 simp -dsimp only[go_sem,e0,e1,e12,e13,xF hlt,xF hltb,la,lb]
 by_cases hs:a[i].data.toList=b[i].data.toList
 ·have k2:decide (a[i].data.toList=b[i].data.toList)=true:=dcT hs
  simp -dsimp only[go_sem,k2,Bool.not_true,e12,e13,ah hlt (lTr hl (by decide))]
  refine ⟨a.length - (i+1),by omega,i+1,hlt,rfl,?_,e0,e1,rfl⟩
  rw[List.take_succ_eq_append_getElem hlt,List.take_succ_eq_append_getElem hltb,List.map_append,List.map_append,hst]
  simp[hs]
 ·have k2:decide (a[i].data.toList=b[i].data.toList)=false:=dcF hs
  have e:pn a b=false:=by
   unfold pn
   refine dcF (fun c=>hs ?_)
   have:=congrArg (·[i]?) c
   simpa[gEl hlt,gEl hltb] using this
  simp -dsimp only[go_sem,k2,Bool.not_false,hr,e]
section
variable {G:List ar}
mutual
theorem uZ (most:Nat):∀(p:ad) (deep:Nat),1<=cG most deep p
 | ⟨d,t,l⟩,deep=>by
   unfold cG
   split
   ·omega
   split
   ·omega
   split
   ·omega
   exact lTr (lRf 1) (qI most l (deep - 1) 1)
theorem qI (most:Nat):∀(l:List ad) (deep n:Nat),n<=dg most deep l n
 | [],deep,n=>by unfold dg;exact lRf _
 | x::l,deep,n=>by
   unfold dg
   split
   ·exact lTr (Nat.le_add_right _ _) (qI most l deep _)
   ·exact lRf _
end
theorem qJ (most:Nat):∀(l:List ad) (deep n:Nat),dg most deep l n<=most->n+l.length<=most/\∀x∈l,cG most deep x<=most
 | [],deep,n,h=>by unfold dg at h;exact ⟨by simpa using h,fun x hx=>by simp at hx⟩
 | y::l,deep,n,h=>by
   unfold dg at h
   split at h
   ·obtain ⟨h1,h2⟩:=qJ most l deep _ h
    have:=uZ most y deep
    refine ⟨by rw[List.length_cons];omega,fun x hx => ?_⟩
    rcases mCo.1 hx with rfl|hx
    ·omega
    ·exact h2 x hx
   ·rename_i c
    exact absurd h c
theorem qK (s:ByteArray):s.data.toList.length=s.size:=by rw[Array.length_toList];rfl
mutual
theorem l5 (most:Nat) (hm:most<=1000):∀(p:ad) (deep:Nat),cG most deep p<=most->rK p/\Few p
 | ⟨d,t,l⟩,deep,h=>by
   unfold cG at h
   split at h
   ·omega
   split at h
   ·omega
   rename_i ht
   split at h
   ·omega
   obtain ⟨h1,h2⟩:=qJ most l (deep - 1) 1 h
   obtain ⟨h3,h4⟩:=pk most hm l (deep - 1) h2
   rw[qK] at ht
   refine ⟨by unfold rK;exact ⟨by omega,h3⟩,.mk d t l (by omega) (fun i p hp=>h4 p (mOg hp))⟩
theorem pk (most:Nat) (hm:most<=1000):∀(l:List ad) (deep:Nat),(∀x∈l,cG most deep x<=most)->qy l/\∀x∈l,Few x
 | [],deep,h=>⟨by unfold qy;trivial,fun x hx=>by simp at hx⟩
 | y::l,deep,h=>by
   obtain ⟨h1,h2⟩:=l5 most hm y deep (h y (.head _))
   obtain ⟨h3,h4⟩:=pk most hm l deep (fun x hx=>h x (.tail _ hx))
   refine ⟨by unfold qy;exact ⟨h1,h3⟩,fun x hx => ?_⟩
   rcases mCo.1 hx with rfl|hx
   ·exact h2
   ·exact h4 x hx
end
theorem qL (most:Nat):∀(l:List ar) (n z:Nat),eP most l n=some z->n<=z
 | [],n,z,h=>by unfold eP at h;injection h with h;omega
 | x::l,n,z,h=>by
   unfold eP at h
   split at h
   ·split at h
    ·cases h
    ·have:=qL most l _ z h
     omega
   ·injection h with h;omega
theorem qM (most:Nat):∀(l:List ar) (n z:Nat),eP most l n=some z->z<=most->∀x∈l,x.name.data.toList.length<=200/\cG most 40 x.body<=most
 | [],n,z,_,_=>fun x hx=>by simp at hx
 | y::l,n,z,h,hz=>by
   unfold eP at h
   split at h
   ·split at h
    ·cases h
    ·rename_i hc
     have h1:=qL most l _ z h
     have h2:=qM most l _ z h hz
     intro x hx
     rcases mCo.1 hx with rfl|hx
     ·exact ⟨by omega,by omega⟩
     ·exact h2 x hx
   ·injection h with h;omega
theorem xL {most:Nat} (hm:most<=1000) (h:gh most G=true):G.length<=30/\lp G/\∀(i:Nat) (x:ar),G[i]? = some x->Few x.body:=by
 unfold gh at h
 split at h
 ·cases h
 ·rename_i z hz
  rw[Bool.and_eq_true] at h
  have h1:=dcO h.1
  have h2:=dcO h.2
  have h3:=qM most G 0 z hz h1
  refine ⟨h2,fun i x hx => ?_,fun i x hx=>(l5 most hm x.body 40 (h3 x (mOg hx)).2).2⟩
  obtain ⟨a1,a2⟩:=h3 x (mOg hx)
  rw[qK] at a1
  exact ⟨by omega,(l5 most hm x.body 40 a2).1⟩
end
end Go.Ev.Z24
end
section
namespace Go.Proofs.YtcnllhnhinmokaaGreat
open Go.Ev Go.RowKit
theorem follows:Tryz.prog.follows .mixedOrders=true:=by kernel_rfl
theorem wU:xN Tryz.prog 60 6=true:=by kernel_rfl
def manystrandlaw24_awake.f:Option Bool:=some true
theorem manystrandlaw24_awake.calls (r:Bool) (w:World) (h:manystrandlaw24_awake.f=some r) :
  Calls Tryz.prog 6 #[] w fun e w'=>e=.returned (.bool r)/\Below w.heap.size w w':=by
 unfold manystrandlaw24_awake.f at h
 injection h with h
 subst h
 exact rQ (yy follows) wU w
end Go.Proofs.YtcnllhnhinmokaaGreat
end
section
namespace Go.Ev.Z24
open Go.RowKit Go.Proofs
section
variable {r:Ro} {G:List ar} {items:List ByteArray} {Gv Iv:Option Addr} {gc ic:Nat}
theorem B7 {ρ:Rho} {args':List Value} (h:VRs ρ [] args'):args'=[]:=by
 cases h
 rfl
theorem jE (h:Hp):Snd Tryz.prog 6 [] h (.bool true) h :=
 pz Tryz.func6 rfl rfl (fun _ _=>B7) (fun _=>.bool _) (fun w=>Go.Proofs.YtcnllhnhinmokaaGreat.manystrandlaw24_awake.calls true w rfl) h
structure Al (r:Ro) (l:List ar) (Av:Option Addr) (c b o:Nat) (css:Nat->List Value):Prop where
 hc:l.length<=c
 hb:l.length<=9223372036854775807
 hA:l≠[]->Av=some ⟨b,o,none⟩
 hat:∀(i:Nat) (x:ar),l[i]? = some x->fS r b (o+i*4) (.string x.name::css i)
 hk:∀(i:Nat) (x:ar),l[i]? = some x->RoPart r x.body (css i)
 hs:spotless Av=true
end
section
variable {r:Ro} {G:List ar} {items:List ByteArray} {Gv Iv:Option Addr} {gc ic xb:Nat}
def jT (s:ByteArray):ad:=⟨⟨#[114,117,108,101]⟩,s,[]⟩
end
section
variable {r:Ro} {bk m eb:Nat} {em:List Bool}
end
section
variable {r:Ro}
theorem OwnE.lower {e:TypeId} {h:Hp} {n0 f0 n1 f1:Nat} {cs:List Value} {v:Value} (k:OwnE e h n0 f0 cs v) (h1:n1<=n0) (h2:f1<=f0):OwnE e h n1 f1 cs v:=by
 rcases k with k|⟨b,f,hl,e1,hr,hb,hf⟩
 ·exact .inl k
 ·exact .inr ⟨b,f,hl,e1,hr,lTr h1 hb,fun c=>lTr h2 (hf c)⟩
end
section
inductive pp
 | part (p:ad)
 | kids (l:List ad) (sq:Bool)
abbrev StF:=List Bool×List ByteArray
def Ee:ByteArray:=⟨#[42]⟩
def Am (G:List ar) (em:List Bool) (rc:pp->StF->Option StF):pp->StF->Option StF
 | .part ⟨d,t,l⟩,s =>
   if d.data.toList=[105,115] then some (s.1,s.2++[t])
   else if d.data.toList=[97,110,121] then some (s.1,s.2++[Ee])
   else if d.data.toList=[114,117,108,101] then
    (if s.1.getD (ae (nms G) t) false=true then some s else rc (.part (eS G t)) (s.1.set (ae (nms G) t) true,s.2))
   else if d.data.toList=[110,111,116] then some s
   else rc (.kids l (decide (d.data.toList=[115,101,113]))) s
 | .kids [] _,s=>some s
 | .kids (x::l) sq,s=>(rc (.part x) s).bind fun s1=>if (sq && !cD (emf (nms G) em) x)=true then some s1 else rc (.kids l sq) s1
def Dt (G:List ar) (em:List Bool):Nat->pp->StF->Option StF
 | 0,_,_=>none
 | k+1,t,s=>Am G em (Dt G em k) t s
variable {G:List ar} {em:List Bool}
def RunsF (G:List ar) (em:List Bool) (t:pp) (s o:StF):Prop:=∃k,Dt G em k t s=some o
section
variable {d t:ByteArray} {l:List ad} {s o:StF}
end
def Cy:List ByteArray->Nat->List MapEntry
 | [],_=>[]
 | n::l,i=>⟨.string n,.bool true,i⟩::Cy l (i+1)
def MapK (h:Hp) (m:Nat) (ks:List ByteArray):Prop:=m<h.next/\h.base<=m/\h.objs.get m=some (.map (Cy ks 0) ks.length)
theorem MapK.keepS {S:Nat->Prop} {h h1:Hp} {m:Nat} {ks:List ByteArray} (x:ExtS S h h1) (k:MapK h m ks) (hm:¬S m):MapK h1 m ks:=⟨lTl k.1 x.next,by rw[x.base];exact k.2.1,by rw[x.objs m k.1 hm];exact k.2.2⟩
theorem MapK.keep {h h1:Hp} {m:Nat} {ks:List ByteArray} (x:Ext h h1) (k:MapK h m ks):MapK h1 m ks:=k.keepS (x.toS (S:=fun _=>False)) (fun c=>c)
end
end Go.Ev.Z24
end
section
namespace Go.Ev
open Go.RowKit
section
variable {P:Program} {ρ:Rho} {N:Bs} {h:Hp} {w:World} {a:Ev.A} {act:Act}
def Sns (P:Program) (f:FuncId) (args:List Value) (h:Hp) (R:Value->Hp->Prop):Prop :=
 (∃fn c,P.funcs[f]? = some fn/\fn.body=some c/\(fn.name == "runtime.NumGoroutine")=false) /\
  ∀(ρ:Rho) (N:Bs) (w:World) (args':List Value),HR P ρ N h w->VRs ρ args args' ->
   Calls P f args'.toArray w fun e w1=>∃v h1 ρ1 v',R v h1/\e=.returned v'/\ρ.le ρ1/\HR P ρ1 N h1 w1/\VR ρ1 v v'/\Below N w w1
theorem Snd.sns {f:FuncId} {args:List Value} {v:Value} {h1:Hp} {R:Value->Hp->Prop} (s:Snd P f args h v h1) (k:R v h1):Sns P f args h R :=
 ⟨s.1,fun ρ N w args' H A=>(s.2 ρ N w args' H A).mono fun _ _ ⟨ρ1,v',e,r1,r2,r3,r4⟩=>⟨v,h1,ρ1,v',k,e,r1,r2,r3,r4⟩⟩
theorem Sns.mono {f:FuncId} {args:List Value} {R R':Value->Hp->Prop} (s:Sns P f args h R) (k:∀v h1,R v h1->R' v h1):Sns P f args h R' :=
 ⟨s.1,fun ρ N w args' H A=>(s.2 ρ N w args' H A).mono fun _ _ ⟨v,h1,ρ1,v',q,r⟩=>⟨v,h1,ρ1,v',k v h1 q,r⟩⟩
def CL (P:Program) (op:Op) (a:Ev.A) (h:Hp) (K:Value->Hp->Prop):Prop :=
 ∀(N:Bs) (ρ:Rho) (w:World) (act:Act) (o:Oper),o.op=op->HR P ρ N h w->ActR ρ a act->∀(next:Act->World->Prop) (Q:Exit->Act->World->Prop),
  (∀v h1 ρ1 w1 v',K v h1->ρ.le ρ1->VR ρ1 v v'->HR P ρ1 N h1 w1->Below N w w1->next (act.put o.dst v') w1)->o.wp P act w next Q
theorem sf (W:WfP P) {op:Op} {K:Value->Hp->Prop} (k:kD P op a h K):CL P op a h K:=by
 obtain ⟨C,v,h1,HC,hv,hk⟩:=oi k
 intro N ρ w act o ho H A next Q hn
 subst ho
 exact u7 W HC H A o hv (fun ρ1 w1 v' r1 r2 r3 r4=>hn v h1 ρ1 w1 v' hk r1 r2 r3 r4)
theorem wA {op:Op} {f:FuncId} {args:List Value} {K:Value->Hp->Prop} (hcal:cR a op=some (f,args)) (s:Sns P f args h K):CL P op a h K:=by
 intro N ρ w act o ho H A next Q hn
 obtain ⟨⟨fn,c,hf,hb,hname⟩,hcall⟩:=s
 subst ho
 obtain ⟨dst,op,ty,pos,after,guard⟩:=o
 simp only at hcal
 unfold cR at hcal
 split at hcal
 ·rename_i cc
  split at hcal
  ·rename_i fo hco
   split at hcal
   ·rename_i g first captured l hfo hl
    injection hcal with hcal
    injection hcal with hc1 hc2
    subst hc1;subst hc2
    have hfr:=A.ev hfo
    generalize hcv:act.eval fo=cv at hfr
    cases hfr with
    | @func _ _ _ f' c' hfi hca =>
    have hargs:VRs ρ l (cc.args.map act.eval).toList:=by simpa using A.evList hl
    have hall:VRs ρ (first.toList++l++captured.toList) (f'++cc.args.map act.eval++c').toList:=by
     simp only[Array.toList_append]
     exact (hfi.append hargs).append hca
    have hrun:(execOp act.eval { dst:=dst,op:=.call cc,type:=ty,pos:=pos,after:=after,guard:=guard }).run P w=.ok (.enter g (f'++cc.args.map act.eval++c')) w:=by
     have hname':¬fn.name = "runtime.NumGoroutine" := by simpa using hname
     simp[execOp,resolve,hco,hcv,Deferred.ofValue,invoke,callFunc,hf,hname',hb]
    unfold Oper.wp
    rw[hrun,Oper.upon_enter]
    refine (hcall ρ N w _ H hall).mono ?_
    rintro e w1 ⟨v,h1,ρ1,v',k,rfl,r1,r2,r3,r4⟩
    exact hn v h1 ρ1 w1 v' k r1 r3 r2 r4
   ·cases hcal
  ·cases hcal
 ·cases hcal
def nW (seen:List Nat) (es:List MapEntry):List MapEntry:=es.filter fun e => !(seen.any fun b=>Nat.beq b e.born)
def yk (h:Hp) (it:Value) (K:Value->Hp->Prop):Prop:=∃b m since seen last es clock,it=.pointer (some ⟨b,0,none⟩)/\h.objs.get b=some (.mIter (some m) since seen last)/\h.map? m=some (es,clock) /\
 (seen.isEmpty||es.isEmpty || !(es.all fun e=>Nat.ble last e.born))=true/\(∀e∈es,e.born<since) /\
 (nW seen es=[]->K (.tuple #[.bool false]) h)/\∀e∈nW seen es,K (.tuple #[.bool true,e.key,e.val]) (h.put b (.mIter (some m) since (seen++[e.born]) clock))
theorem wB {q:Question} {n:Nat} (hq:q=.mapNext n) (hn:0<n) (w:World):∃j w',(choose q).run P w=.ok j w'/\j<n/\∃d,w'={ w with drawn:=d }:=by
 subst hq
 by_cases hf:(Question.mapNext n).forced=true
 ·exact ⟨0,w,by rw[Go.run_choose,if_pos hf],hn,w.drawn,rfl⟩
 ·exact ⟨(w.tape w.drawn (.mapNext n)) % n,{ w with drawn:=w.drawn+1 },by rw[Go.run_choose,if_neg hf];rfl,Nat.mod_lt _ hn,_,rfl⟩
theorem tX:∀{l l':List MapEntry},MRs ρ l l'->∀(j:Nat) (e':MapEntry),l'[j]? = some e'->∃e,l[j]? = some e/\VR ρ e.key e'.key/\VR ρ e.val e'.val/\e'.born=e.born
 | _,_,.nil,j,e',h=>by simp at h
 | _,_,.cons a b c k,0,e',h=>by
   simp at h
   subst h
   exact ⟨_,rfl,a,b,c⟩
 | _,_,.cons a b c k,j+1,e',h=>by
   obtain ⟨e,h1,h2⟩:=tX k j e' (by simpa using h)
   exact ⟨e,by simpa using h1,h2⟩
theorem yl (H:HR P ρ N h w) {x x':Value} (hx:VR ρ x x') {ty:TypeId} {K:Value->Hp->Prop} (k:yk h x K) :
  ∃v h1 ρ1 w1 v',K v h1/\ρ.le ρ1/\(Instr.next x' false ty).run P w=.ok v' w1/\VR ρ1 v v'/\HR P ρ1 N h1 w1/\Below N w w1:=by
 obtain ⟨b,m,since,seen,last,es,clock,rfl,hobj,hmap,hq,hold,k0,k1⟩:=k
 cases hx with
 | @ptr _ p' i hp =>
 have hi:=hp.2.1
 obtain ⟨o',ho,hR⟩:=H.obj b _ i hobj (fun r hr=>by rw[hobj] at hr;cases hr) hi
 cases o'<;>simp only[ObjR] at hR
 rename_i m' since' seen' st'
 obtain ⟨hm,rfl,hseen,rfl,hs0⟩:=hR
 cases m' with
 | none=>simp at hm
 | some m' =>
 obtain ⟨j,hj,rfl⟩:=hm
 have hz:i.s+0=0:=by omega
 have hget:=ij (P:=P) ho (fun _ _ _ e=>by cases e)
 have hset:=fun o'=>dN (P:=P) (o':=o') ho (fun _ _ _ e=>by cases e)
 obtain ⟨es',hw,hMR,_⟩:=H.map? hmap hj
 have hget2:=cu (P:=P) hw
 have q1:(!seen'.isEmpty && !es'.isEmpty&&es'.all (fun e=>decide (e.born≥st')))=false:=by
  have e1:seen'.isEmpty=seen.isEmpty:=by rw[<-hseen];simp
  have e2:es'.isEmpty=es.isEmpty:=by
   have:=hMR.length
   rw[Bool.eq_iff_iff,Array.isEmpty_iff,List.isEmpty_iff,<-Array.toList_eq_nil_iff,<-List.length_eq_zero_iff,<-List.length_eq_zero_iff,this]
  have e3:es'.all (fun e=>decide (e.born≥st'))=es.all fun e=>Nat.ble st' e.born:=by
   rw[<-Array.all_toList]
   refine rj (fun e e' hb => ?_) hMR
   rw[hb,Bool.eq_iff_iff]
   simp
  rw[e1,e2,e3]
  cases h1:seen.isEmpty<;>cases h2:es.isEmpty<;>cases h3:(es.all fun e=>Nat.ble st' e.born)<;>simp_all
 have hleft:MRs ρ (nW seen es) (es'.filter fun e => !seen'.contains e.born).toList:=by
  rw[Array.toList_filter]
  refine hMR.filter (fun e e' hb => ?_)
  rw[hb,<-hseen,<-kI]
  simp
 generalize hL':(es'.filter fun e => !seen'.contains e.born)=L' at hleft
 have hall:∀e∈nW seen es,e.born<since':=fun e he=>hold e (List.mem_filter.1 he).1
 generalize hL:nW seen es=L at hleft k0 k1 hall
 have hold':∀e'∈L'.toList,e'.born<since':=by
  intro e' he'
  obtain ⟨n,hn⟩:=List.getElem?_of_mem he'
  obtain ⟨e,h1,_,_,h4⟩:=tX hleft n e' hn
  rw[h4]
  exact hall e (mOg h1)
 have f1:L'.filter (fun e=>decide (e.born<since'))=L':=by
  apply Array.ext'
  rw[Array.toList_filter,List.filter_eq_self]
  exact fun e he=>dcT (hold' e he)
 have f2:L'.filter (fun e=>decide (e.born≥since'))=#[]:=by
  apply Array.ext'
  rw[Array.toList_filter,List.filter_eq_nil_iff]
  intro e he
  have:=hold' e he
  simp
  omega
 by_cases hnil:L=[]
 ·have hn':L'=#[]:=by
   apply Array.ext'
   rw[hnil] at hleft
   cases hc:L'.toList with
   | nil=>rfl
   | cons x r=>rw[hc] at hleft;cases hleft
  refine ⟨_,_,ρ,w,_,k0 hnil,Rho.le_refl ρ,?_,.tuple (c:=#[.bool false]) (c':=#[.bool false]) (.cons (.bool _) .nil),H,Below.refl _ _⟩
  rw[hp.fn,hz]
  simp only[Instr.next,Sem.run_bind,hget,Result.andThen_ok,hget2,q1,Bool.false_eq_true,if_false,Sem.run_pure,hL',f1,f2,hn']
  simp[Question.forced]
 ·have hlen:=hleft.length
  have hpos:0<L'.size:=by
   rw[<-Array.length_toList]
   have:0<L.length:=List.length_pos_iff.2 hnil
   omega
  have hne:L'.isEmpty=false:=by simpa using fun e=>by rw[e] at hpos;exact absurd hpos (Nat.lt_irrefl _)
  have hcand:(if L'.isEmpty=true then #[none] else #[])++(L'++#[]).map some=L'.map some:=by rw[hne];simp
  obtain ⟨n,w',hch,hn,d,rfl⟩:=wB (P:=P) (q:=.mapNext (L'.map some).size) (n:=L'.size) (by rw[Array.size_map]) hpos w
  obtain ⟨e,h1,h2,h3,h4⟩:=tX hleft n L'[n] (by rw[Array.getElem?_toList,Array.getElem?_eq_getElem hn])
  obtain ⟨r1,r2⟩:=(H.drewn d).put_alone (o:=.mIter (some m) since' (seen++[e.born]) clock) (o':=.mapIter (some j.b) since' (seen'.push L'[n].born) clock) hi hobj (fun _ e=>by cases e) (fun _ e=>by cases e)
   ⟨⟨j,hj,rfl⟩,rfl,by rw[Array.toList_push,hseen,h4],rfl,hs0⟩
  have hset':=fun o'=>dN (P:=P) (w:={ w with drawn:=d }) (o':=o') ho (fun _ _ _ e=>by cases e)
  refine ⟨_,_,ρ,_,_,k1 e (mOg h1),Rho.le_refl ρ,?_,.tuple (c:=#[.bool true,e.key,e.val]) (c':=#[.bool true,L'[n].key,L'[n].val]) (.cons (.bool _) (.cons h2 (.cons h3 .nil))),r1,⟨r2.os,r2.tape,r2.output,r2.size,r2.block⟩⟩
  rw[hp.fn,hz]
  simp only[Instr.next,Sem.run_bind,hget,Result.andThen_ok,hget2,q1,Bool.false_eq_true,if_false,Sem.run_pure,hL',f1,f2,hcand,hch]
  simp[hn,hset']
end
section
variable {P:Program} {ρ:Rho} {N:Bs} {h:Hp} {w:World} {a:Ev.A} {act:Act}
def Nd (P:Program) (c:Code) (a:Ev.A) (h:Hp) (Q:Ex->Ev.A->Hp->Prop):Prop :=
 ∀(N:Bs) (ρ:Rho) (w:World) (act:Act),HR P ρ N h w->ActR ρ a act->∀Qm:Exit->Act->World->Prop,
  (∀e a1 h1 ρ1 w1 act1,Q e a1 h1->a1.n=a.n->ρ.le ρ1->ActR ρ1 a1 act1->HR P ρ1 N h1 w1->Below N w w1->Qm e.to act1 w1)->c.wp P Qm act w
theorem AM (W:WfP P) {c:Code} {Q:Ex->Ev.A->Hp->Prop} (k:yD P c a h Q):Nd P c a h Q:=by
 obtain ⟨e,a1,h1,r,hn,hq⟩:=k
 intro N ρ w act H A Qm hQ
 exact (pH (N:=N) W r).1 ρ w act H A Qm (fun ρ1 w1 act1 r1 r2 r3 r4=>hQ e a1 h1 ρ1 w1 act1 hq hn r1 r2 r3 r4)
def qW:Op->Bool
 | .next _ false=>true
 | _=>false
def tW (a:Ev.A):Op->Option Value
 | .next x false=>a.ev x
 | _=>none
def opN (P:Program) (op:Op) (a:Ev.A) (h:Hp) (K:Value->Hp->Prop):Prop :=
 wif (aP op) (opt (aH P h a op) fun v=>K v h)
  (jL (cR a op) (fun f args=>∃R:Value->Hp->Prop,Sns P f args h R/\∀v h1,R v h1->K v h1) (wif (qW op) (opt (tW a op) fun v=>yk h v K) (opt (cq P h a op) fun p=>K p.1 p.2)))
theorem yf (W:WfP P) {op:Op} {K:Value->Hp->Prop} (k:opN P op a h K):CL P op a h K:=by
 unfold opN wif jL at k
 split at k
 ·rename_i hr
  exact sf W (by unfold kD wif;rw[hr];exact k)
 ·rename_i hr
  split at k
  ·rename_i f args hc
   obtain ⟨R,s,hk⟩:=k
   exact wA hc (s.mono hk)
  ·rename_i hc
   split at k
   ·rename_i hx
    obtain ⟨it,rfl⟩:∃it,op=.next it false:=by
     unfold qW at hx
     split at hx
     ·exact ⟨_,rfl⟩
     ·cases hx
    obtain ⟨v,hv,hk⟩:=cX k
    intro N ρ w act o ho H A next Q hn
    have hv':=A.ev (show a.ev it=some v from hv)
    obtain ⟨u,h1,ρ1,w1,v',q,r1,r2,r3,r4,r5⟩:=yl (ty:=o.type) H hv' hk
    obtain ⟨dst,op',ty,pos,after,guard⟩:=o
    simp only at ho r2
    subst ho
    unfold Oper.wp
    have hrun:(execOp act.eval { dst:=dst,op:=.next it false,type:=ty,pos:=pos,after:=after,guard:=guard }).run P w=.ok (.value v') w1:=by
     simp[execOp,r2]
    rw[hrun]
    exact hn u h1 ρ1 w1 v' q r1 r3 r4 r5
   ·exact sf W (by unfold kD wif jL;rw[hr,hc];exact k)
def mK (P:Program) (all:List Oper):List Oper->Ev.A->Hp->(Ev.A->Hp->Prop)->Prop
 | [],a,h,K=>K a h
 | o::r,a,h,K=>wif (aW all a o) (opN P o.op a h fun v h1=>mK P all r (a.set o.dst v) h1 K) (mK P all r (a.set o.dst ai) h K)
theorem AN (W:WfP P) {n:Nat} {ops:Array Oper} {Q:Exit->Act->World->Prop} {K:Ev.A->Hp->Prop}:∀(r pre:List Oper),ops.toList=pre++r->r.all (fun o=>dL n o.dst)=true->∀{ρ:Rho} {h:Hp} {w:World} {a:Ev.A} {act:Act},
  a.n=n->HR P ρ N h w->ActR ρ a act->mK P ops.toList r a h K ->
  (∀a1 h1 ρ1 w1 act1,K a1 h1->a1.n=n->ρ.le ρ1->ActR ρ1 a1 act1->HR P ρ1 N h1 w1->Below N w w1->Q .normal act1 w1)->wpOps P ops Q (List.range' pre.length r.length) act w:=by
 intro r
 induction r with
 | nil =>
   intro pre hp hd ρ h w a act hn H A hs hQ
   simp only[List.length_nil,List.range'_zero,wpOps]
   exact hQ a h ρ w act hs hn (Rho.le_refl ρ) A H (Below.refl _ _)
 | cons o r ih =>
   intro pre hp hd ρ h w a act hn H HA hs hQ
   simp only[List.all_cons,Bool.and_eq_true] at hd
   have ho:ops[pre.length]? = some o:=by
    rw[<-Array.getElem?_toList,hp]
    simp
   rw[List.length_cons,List.range'_succ,wpOps]
   have go:∀(v:Value) (h1:Hp) (ρ1:Rho) (w1:World) (v':Value),mK P ops.toList r (a.set o.dst v) h1 K->ρ.le ρ1->VR ρ1 v v'->HR P ρ1 N h1 w1->Below N w w1->wpOps P ops Q (List.range' (pre.length+1) r.length) (act.put o.dst v') w1:=by
    intro v h1 ρ1 w1 v' hk r1 r2 r3 r4
    have:=ih (pre++[o]) (by rw[hp];simp) hd.2 ((Ev.A.set_n _ _ _).trans hn) r3 ((HA.mono r1).put r2 (Ev.A.put_ok v hd.1 hn)) hk (fun a1 h2 ρ2 w2 act2 q0 qn s1 s2 s3 s4=>hQ a1 h2 ρ2 w2 act2 q0 qn (Rho.le_trans r1 s1) s2 s3 (r4.trans s4))
    simpa using this
   rw[ho]
   simp only[]
   simp only[mK] at hs
   rw[lz HA ops o] at hs
   unfold wif at hs
   split at hs
   ·rename_i hw
    rw[if_pos hw]
    exact .inl (yf W hs N ρ w act o rfl H HA _ _ (fun v h1 ρ1 w1 v' q r1 r2 r3 r4=>go v h1 ρ1 w1 v' q r1 r2 r3 r4))
   ·rename_i hw
    rw[if_neg (by rw[hw];simp)]
    exact go ai h ρ w undef hs (Rho.le_refl ρ) (.tuple .nil) H (Below.refl _ _)
def ndc (P:Program):Code->Ev.A->Hp->(Ex->Ev.A->Hp->Prop)->Prop
 | .skip,a,h,Q=>Q .normal a h
 | .label _,a,h,Q=>Q .normal a h
 | .region _ ops false,a,h,Q=>mK P ops.toList ops.toList a h (Q .normal)
 | .region id ops true,a,h,Q=>Nd P (.region id ops true) a h Q
 | .seq x y,a,h,Q=>ndc P x a h fun e a1 h1=>match e with
   | .normal=>ndc P y a1 h1 Q
   | .exit j=>Q (.exit j) a1 h1
   | .ret=>Q .ret a1 h1
 | .cond x t f,a,h,Q=>opt (a.ev x) fun v=>isB v fun b=>fT b (ndc P t a h Q) (ndc P f a h Q)
 | .block id b,a,h,Q=>ndc P b a h fun e a1 h1=>match e with
   | .normal=>Q .normal a1 h1
   | .exit j=>fT (j==id) (Q .normal a1 h1) (Q (.exit j) a1 h1)
   | .ret=>Q .ret a1 h1
 | .loop b,a,h,Q=>Nd P (.loop b) a h Q
 | .scope b,a,h,Q=>ndc P b a h Q
 | .exit id,a,h,Q=>Q (.exit id) a h
 | .ret,a,h,Q=>Q .ret a h
 | _,_,_,_=>False
theorem CG (W:WfP P) {n:Nat}:∀(c:Code) {a:Ev.A} {h:Hp} {Q:Ex->Ev.A->Hp->Prop},cE n c=true->a.n=n->ndc P c a h Q->Nd P c a h Q:=by
 intro c
 induction c with
 | skip=>exact fun _ _ k N ρ w act H A Qm hQ=>wp_skip (hQ .normal _ _ ρ w act k rfl (Rho.le_refl ρ) A H (Below.refl _ _))
 | label l=>exact fun _ _ k N ρ w act H A Qm hQ=>wp_label (hQ .normal _ _ ρ w act k rfl (Rho.le_refl ρ) A H (Below.refl _ _))
 | region id ops d =>
   intro a h Q hd hn k
   cases d with
   | false =>
     intro N ρ w act H A Qm hQ
     refine wp_region ?_
     have:=AN (N:=N) (Q:=Qm) W ops.toList [] (by simp) hd hn H A k (fun a1 h1 ρ1 w1 act1 q qn r1 r2 r3 r4=>hQ .normal a1 h1 ρ1 w1 act1 q (qn.trans hn.symm) r1 r2 r3 r4)
     simpa[List.range_eq_range'] using this
   | true =>
     exact k
 | seq x y ihx ihy =>
   intro a h Q hd hn k N ρ w act H A Qm hQ
   simp only[cE] at hd
   split at hd
   ·rename_i hx
    refine wp_seq ?_
    refine ihx hx hn k N ρ w act H A _ (fun e a1 h1 ρ1 w1 act1 q qn r1 r2 r3 r4 => ?_)
    cases e with
    | normal=>exact ihy hd (qn.trans hn) q N ρ1 w1 act1 r3 r2 Qm (fun e a2 h2 ρ2 w2 act2 q0 qn2 s1 s2 s3 s4=>hQ e a2 h2 ρ2 w2 act2 q0 (qn2.trans qn) (Rho.le_trans r1 s1) s2 s3 (r4.trans s4))
    | exit j=>exact hQ (.exit j) a1 h1 ρ1 w1 act1 q qn r1 r2 r3 r4
    | ret=>exact hQ .ret a1 h1 ρ1 w1 act1 q qn r1 r2 r3 r4
   ·cases hd
 | cond x t f iht ihf =>
   intro a h Q hd hn k N ρ w act H A Qm hQ
   simp only[cE] at hd
   split at hd
   ·rename_i hx
    obtain ⟨v,hv,k⟩:=cX k
    obtain ⟨b,rfl,k1,k2⟩:=yA k
    have hv:=A.ev hv
    generalize hcv:act.eval _=cv at hv
    cases hv with
    | bool b =>
    cases b with
    | true=>exact wp_cond_true hcv (iht hx hn (k1 rfl) N ρ w act H A Qm hQ)
    | false=>exact wp_cond_false hcv (ihf hd hn (k2 rfl) N ρ w act H A Qm hQ)
   ·cases hd
 | block id b ih =>
   intro a h Q hd hn k N ρ w act H A Qm hQ
   refine wp_block ?_
   refine ih (by simpa[cE] using hd) hn k N ρ w act H A _ (fun e a1 h1 ρ1 w1 act1 q qn r1 r2 r3 r4 => ?_)
   cases e with
   | normal=>exact hQ .normal a1 h1 ρ1 w1 act1 q qn r1 r2 r3 r4
   | exit j =>
     by_cases e:j=id
     ·subst e
      simp only[Ex.to,Exit.inBlock,if_true]
      exact hQ .normal a1 h1 ρ1 w1 act1 (q.1 (by simp)) qn r1 r2 r3 r4
     ·simp only[Ex.to,Exit.inBlock,e,if_false]
      exact hQ (.exit j) a1 h1 ρ1 w1 act1 (q.2 (by simpa using e)) qn r1 r2 r3 r4
   | ret=>exact hQ .ret a1 h1 ρ1 w1 act1 q qn r1 r2 r3 r4
 | loop b ih=>exact fun _ _ k=>k
 | scope b ih =>
   intro a h Q hd hn k N ρ w act H A Qm hQ
   refine wp_scope_straight ?_
   refine ih (by simpa[cE] using hd) hn k N ρ w act H A _ (fun e a1 h1 ρ1 w1 act1 q qn r1 r2 r3 r4 => ?_)
   cases e with
   | normal=>exact hQ .normal a1 h1 ρ1 w1 act1 q qn r1 r2 r3 r4
   | exit j=>exact hQ (.exit j) a1 h1 ρ1 w1 act1 q qn r1 r2 r3 r4
   | ret=>exact hQ .ret a1 h1 ρ1 w1 act1 q qn r1 r2 r3 r4
 | exit id=>exact fun _ _ k N ρ w act H A Qm hQ=>wp_exit (hQ (.exit id) _ _ ρ w act k rfl (Rho.le_refl ρ) A H (Below.refl _ _))
 | ret=>exact fun _ _ k N ρ w act H A Qm hQ=>wp_ret (hQ .ret _ _ ρ w act k rfl (Rho.le_refl ρ) A H (Below.refl _ _))
 | _=>exact fun _ _ k=>k.elim
theorem CH (W:WfP P) {f:FuncId} {fn:Func} {c:Code} (hf:P.funcs[f]? = some fn) (hb:fn.body=some c) (hname:(fn.name == "runtime.NumGoroutine")=false) {n:Nat} (hn:fn.ntmps=n) (hd:cE n c=true) {args:List Value}
  (hlen:Nat.ble args.length n=true) {R:Value->Hp->Prop}
  (k:∀a:Ev.A,a.n=n->(∀t,a.get t=match args[t]? with|some v=>v|none=>ai)->ndc P c a h fun e a1 h1=>match e with
   | .exit _=>False
   | _=>opt (cS P h1 a1 fn.results.toList) fun vs=>R (jM vs) h1):Sns P f args h R:=by
 subst hn
 have hg:∀t,(⟨eV args 0 .lf,fn.ntmps⟩:Ev.A).get t=match args[t]? with|some v=>v|none=>ai:=by
  intro t
  simp only[A.get,oj,lZr,if_true,Nat.sub_zero,Tr.get_lf]
  cases args[t]? <;> rfl
 have k1:=CG W c hd rfl (k _ rfl hg)
 refine ⟨⟨fn,c,hf,hb,hname⟩,?_⟩
 intro ρ N w args' H hA
 have h1':args.length<=fn.ntmps:=by simpa using hlen
 have A:=ly hA h1'
 refine calls_of_wp hf hb ?_
 refine k1 N ρ w _ H A _ (fun e a1 h1 ρ1 w1 act1 q _ r1 r2 r3 r4 => ?_)
 have fin:∀vs,cS P h1 a1 fn.results.toList=some vs->R (jM vs) h1->act1.defers=[]/\∃v',(results fn act1.tmps).run P w1=.ok v' w1/\∃v h1 ρ1 v'',R v h1/\Ending.returned v'=.returned v''/\ρ.le ρ1/\HR P ρ1 N h1 w1/\VR ρ1 v v''/\Below N w w1:=by
  intro vs hv hR
  refine ⟨r2.defers,?_⟩
  obtain ⟨vs',f1,f2⟩:=gq r3 r2 hv
  have harr:((fn.results.mapM (fun|.tmp t=>pure (act1.tmps.getD t undef)|.cell a t=>do loadVar t (<-asAddr (act1.tmps.getD a undef)):ResultVar->Sem Value))).run P w1=.ok vs'.toArray w1:=by
   rw[Array.mapM_eq_mapM_toList,Sem.run_map]
   erw [f1]
   rfl
  unfold results
  simp only[Sem.run_bind]
  erw [harr]
  simp only[Result.andThen_ok]
  cases f2 with
  | nil=>exact ⟨_,by simp,_,h1,ρ1,_,hR,rfl,r1,r3,.tuple .nil,r4⟩
  | @cons u u' l l' hu hl2 =>
    cases hl2 with
    | nil=>exact ⟨_,by simp,_,h1,ρ1,_,hR,rfl,r1,r3,hu,r4⟩
    | @cons u2 u2' l2 l2' hu2 hl3=>exact ⟨.tuple (u'::u2'::l2').toArray,by simp,_,h1,ρ1,_,hR,rfl,r1,r3,.tuple (.cons hu (.cons hu2 hl3)),r4⟩
 cases e with
 | exit j=>exact q.elim
 | normal =>
   obtain ⟨vs,hv,hR⟩:=cX q
   exact fin vs hv hR
 | ret =>
   obtain ⟨vs,hv,hR⟩:=cX q
   exact fin vs hv hR
def yg (P:Program) (f:FuncId) (args:List Value) (h:Hp) (K:Value->Hp->Prop) (_:Tag K):Prop:=∃R:Value->Hp->Prop,Sns P f args h R/\∀v h1,R v h1->K v h1
def Cd (h:Hp) (it:Value) (K:Value->Hp->Prop) (_:Tag K):Prop:=yk h it K
def Nc (P:Program) (c:Code) (a:Ev.A) (h:Hp) (Q:Ex->Ev.A->Hp->Prop) (_:Tag c) (_:Tag Q):Prop:=ndc P c a h Q
def No (P:Program) (all r:List Oper) (a:Ev.A) (h:Hp) (K:Ev.A->Hp->Prop) (_:Tag all) (_:Tag r) (_:Tag K):Prop:=mK P all r a h K
def Dn (P:Program) (id:Nat) (ops:List Oper) (a:Ev.A) (h:Hp) (Q:Ex->Ev.A->Hp->Prop) (_:Tag ops) (_:Tag Q):Prop:=Nd P (.region id ops.toArray true) a h Q
def Nt (P:Program) (c:Code) (a:Ev.A) (h:Hp) (Q:Ex->Ev.A->Hp->Prop) (_:Tag c) (_:Tag Q):Prop:=Nd P c a h Q
section
theorem AO (a:Ev.A) (h:Hp) (Q:Ex->Ev.A->Hp->Prop) (t:Tag Code.skip) (u:Tag Q):Nc P .skip a h Q t u=Q .normal a h:=nr rfl
theorem wz (id:Nat) (ops:List Oper) (a:Ev.A) (h:Hp) (Q:Ex->Ev.A->Hp->Prop) (t:Tag (Code.region id ops.toArray false)) (u:Tag Q):Nc P (.region id ops.toArray false) a h Q t u=No P ops ops a h (Q .normal) ⟨⟩ ⟨⟩ ⟨⟩:=nr rfl
theorem AP (id:Nat) (ops:List Oper) (a:Ev.A) (h:Hp) (Q:Ex->Ev.A->Hp->Prop) (t:Tag (Code.region id ops.toArray true)) (u:Tag Q):Nc P (.region id ops.toArray true) a h Q t u=Dn P id ops a h Q ⟨⟩ ⟨⟩:=nr rfl
theorem CI (x y:Code) (a:Ev.A) (h:Hp) (Q:Ex->Ev.A->Hp->Prop) (t:Tag (x.seq y)) (u:Tag Q):Nc P (.seq x y) a h Q t u=Nc P x a h (fun e a1 h1=>match e with
 | .normal=>Nc P y a1 h1 Q ⟨⟩ ⟨⟩
 | .exit j=>Q (.exit j) a1 h1
 | .ret=>Q .ret a1 h1) ⟨⟩ ⟨⟩:=nr rfl
theorem AQ (x:Operand) (t f:Code) (a:Ev.A) (h:Hp) (Q:Ex->Ev.A->Hp->Prop) (p:Tag (Code.cond x t f)) (u:Tag Q):Nc P (.cond x t f) a h Q p u=Opt (a.ev x) (fun v=>IsB v (fun b=>jH b (Nc P t a h Q ⟨⟩ ⟨⟩) (Nc P f a h Q ⟨⟩ ⟨⟩) ⟨⟩ ⟨⟩) ⟨⟩) ⟨⟩:=by unfold Opt IsB jH;exact rfl
theorem yh (id:Nat) (b:Code) (a:Ev.A) (h:Hp) (Q:Ex->Ev.A->Hp->Prop) (t:Tag (Code.block id b)) (u:Tag Q):Nc P (.block id b) a h Q t u=Nc P b a h (fun e a1 h1=>match e with
 | .normal=>Q .normal a1 h1
 | .exit j=>jH (j==id) (Q .normal a1 h1) (Q (.exit j) a1 h1) ⟨⟩ ⟨⟩
 | .ret=>Q .ret a1 h1) ⟨⟩ ⟨⟩:=by unfold jH;exact rfl
theorem AS (b:Code) (a:Ev.A) (h:Hp) (Q:Ex->Ev.A->Hp->Prop) (t:Tag b.loop) (u:Tag Q):Nc P (.loop b) a h Q t u=Nt P (.loop b) a h Q ⟨⟩ ⟨⟩:=nr rfl
theorem yi (b:Code) (a:Ev.A) (h:Hp) (Q:Ex->Ev.A->Hp->Prop) (t:Tag b.scope) (u:Tag Q):Nc P (.scope b) a h Q t u=Nc P b a h Q ⟨⟩ ⟨⟩:=nr rfl
theorem AT (id:Nat) (a:Ev.A) (h:Hp) (Q:Ex->Ev.A->Hp->Prop) (t:Tag (Code.exit id)) (u:Tag Q):Nc P (.exit id) a h Q t u=Q (.exit id) a h:=nr rfl
theorem CJ (a:Ev.A) (h:Hp) (Q:Ex->Ev.A->Hp->Prop) (t:Tag Code.ret) (u:Tag Q):Nc P .ret a h Q t u=Q .ret a h:=nr rfl
theorem CK (all:List Oper) (a:Ev.A) (h:Hp) (K:Ev.A->Hp->Prop) (t:Tag all) (s:Tag ([]:List Oper)) (u:Tag K):No P all [] a h K t s u=K a h:=nr rfl
theorem AU (all:List Oper) (o:Oper) (r:List Oper) (a:Ev.A) (h:Hp) (K:Ev.A->Hp->Prop) (t:Tag all) (s:Tag (o::r)) (u:Tag K):No P all (o::r) a h K t s u =
 Wif (aW all a o) (Wif (aP o.op) (Opt (aH P h a o.op) (fun v=>No P all r (a.set o.dst v) h K ⟨⟩ ⟨⟩ ⟨⟩) ⟨⟩)
  (iM (cR a o.op) (fun f args=>yg P f args h (fun v h1=>No P all r (a.set o.dst v) h1 K ⟨⟩ ⟨⟩ ⟨⟩) ⟨⟩)
   (Wif (qW o.op) (Opt (tW a o.op) (fun v=>Cd h v (fun v h1=>No P all r (a.set o.dst v) h1 K ⟨⟩ ⟨⟩ ⟨⟩) ⟨⟩) ⟨⟩) (Opt (cq P h a o.op) (fun p=>No P all r (a.set o.dst p.1) p.2 K ⟨⟩ ⟨⟩ ⟨⟩) ⟨⟩) ⟨⟩ ⟨⟩) ⟨⟩ ⟨⟩) ⟨⟩ ⟨⟩)
  (No P all r (a.set o.dst ai) h K ⟨⟩ ⟨⟩ ⟨⟩) ⟨⟩ ⟨⟩:=by unfold Wif Opt iM;exact rfl
end
theorem sd {f:FuncId} {args:List Value} {K:Value->Hp->Prop} {t:Tag K} {v:Value} {h1:Hp} (s:Snd P f args h v h1) (k:K v h1):yg P f args h K t :=
 ⟨fun v' h'=>v'=v/\h'=h1,s.sns ⟨rfl,rfl⟩,fun _ _ e=>by rw[e.1,e.2];exact k⟩
theorem se (W:WfP P) {c:Code} {Q:Ex->Ev.A->Hp->Prop} {t:Tag c} {u:Tag Q} (k:Th P c a h Q t u):Nt P c a h Q t u:=by
 unfold Th at k
 exact AM W k
theorem yj (W:WfP P) {f:FuncId} {fn:Func} {c:Code} (hf:P.funcs[f]? = some fn) (hb:fn.body=some c) (hname:(fn.name == "runtime.NumGoroutine")=false) {n:Nat} (hn:fn.ntmps=n) (hd:cE n c=true) {args:List Value}
  (hlen:Nat.ble args.length n=true) {R:Value->Hp->Prop}
  (k:∀a:Ev.A,a.n=n->(∀t,a.get t=match args[t]? with|some v=>v|none=>ai)->Nc P c a h (fun e a1 h1=>match e with
   | .exit _=>False
   | _=>Opt (cS P h1 a1 fn.results.toList) (fun vs=>R (jM vs) h1) ⟨⟩) ⟨⟩ ⟨⟩):Sns P f args h R :=
 CH W hf hb hname hn hd hlen (fun a hn hg=>by
  have:=k a hn hg
  unfold Nc Opt at this
  exact this)
attribute [irreducible] yg Cd Nc No Nt Dn
attribute [go_sem] AO wz AP CI AQ yh AS yi AT CJ CK AU qW tW
end
end Go.Ev
end
section
namespace Go.Ev.Z24
open Go.RowKit Go.Proofs
section
variable {r:Ro}
theorem StrsAt.keep {h h1:Hp} {n0 f0:Nat} {ss:List ByteArray} {v:Value} (k:OwnE 9 h n0 f0 (dw ss) v) (x:Ext h h1):StrsAt h1 v ss:=(k.ext x).strsAt
end
section
variable {r:Ro}
end
end Go.Ev.Z24
end
section
namespace Go.Ev
open Go.RowKit
section
variable {P:Program} {h:Hp}
def gI (op:Op):Bool:=iJ op||gU op
theorem wg {op:Op} (h:am true op=false):aP op=false:=by
 unfold am at h
 split at h
 ·cases h
 ·assumption
theorem wh {op:Op} (hr:am true op=true) (hu:gI op=false) (g:Nat) (h h1:Hp) (a:Ev.A):aN P g h a op=aN P g h1 a op:=by
 unfold gI at hu
 rw[Bool.or_eq_false_iff] at hu
 have h1:aP op=true:=by
  unfold am at hr
  split at hr
  ·assumption
  ·rw[hu.2] at hr;cases hr
 simp only[aN,h1]
 exact rV hu.1 _ _ _
def pdM (P:Program) (B:Nat) (h:Hp):List Pd->Prop->Prop
 | [],K=>K
 | p::l,K=>opt (aN P (B+p.i) h p.a p.op) fun u=>wif (aB 9 p.v u) (pdM P B h l K) False
def pB (P:Program) (B i:Nat) (a:Ev.A) (op:Op) (v:Value) (w:List Nat):List (Nat×Hp)->Prop->Prop
 | [],K=>K
 | (e,h)::l,K=>wif (nI w e) (pB P B i a op v w l K) (opt (aN P (B+i) h a op) fun u=>wif (aB 9 v u) (pB P B i a op v w l K) False)
def DM (P:Program) (B:Nat) (all:List Oper):List (List Nat)->Nat->List Oper->List (Nat×Hp)->List Cl->List Pd->Ev.A->Hp->(Ev.A->Hp->Prop)->Prop
 | _,_,[],_,_,_,a,h,K=>K a h
 | [],_,_::_,_,_,_,_,_,_=>False
 | w::ws,i,o::r,gp,cs,pend,a,h,K =>
   wif (aW all a o)
    (wif (am true o.op)
     (opt (aN P (B+i) h a o.op) fun v=>wif (aB 9 v v) (wif (gI o.op) (pB P B i a o.op v w gp (DM P B all ws (i+1) r gp cs (⟨i,a,o.op,v⟩::pend) (a.set o.dst v) h K)) (DM P B all ws (i+1) r gp cs pend (a.set o.dst v) h K)) False)
     (jL (cR a o.op) (fun f args=>∃v h1,Snd P f args h v h1/\nJ f args h cs/\pdM P B h1 (cJ w pend) (DM P B all ws (i+1) r (gp++[(i,h)]) (⟨f,args,h,v,h1⟩::cs) (cJ w pend) (a.set o.dst v) h1 K))
      (opt (cq P h a o.op) fun p=>pdM P B p.2 (cJ w pend) (DM P B all ws (i+1) r (gp++[(i,h)]) cs (cJ w pend) (a.set o.dst p.1) p.2 K))))
    (wif (am true o.op) (DM P B all ws (i+1) r gp cs pend (a.set o.dst ai) h K) (DM P B all ws (i+1) r (gp++[(i,h)]) cs (cJ w pend) (a.set o.dst ai) h K))
def qP (P:Program) (B i:Nat) (h:Hp) (a:Ev.A) (op:Op) (v:Value):Prop:=∃u,aN P (B+i) h a op=some u/\aB 9 v u=true
def Ar (P:Program) (B:Nat) (h:Hp) (l:List Pd):Prop:=∀p∈l,qP P B p.i h p.a p.op p.v
theorem tM {B:Nat} {K:Prop}:∀{l:List Pd},pdM P B h l K->Ar P B h l/\K
 | [],k=>⟨fun p hp=>(by cases hp),k⟩
 | p::l,k=>by
   obtain ⟨u,hu,k⟩:=cX k
   unfold wif at k
   split at k
   ·rename_i hs
    obtain ⟨k1,k2⟩:=tM k
    refine ⟨fun q hq => ?_,k2⟩
    cases hq with
    | head=>exact ⟨u,hu,hs⟩
    | tail _ hq=>exact k1 q hq
   ·exact k.elim
theorem nD {B i:Nat} {a:Ev.A} {op:Op} {v:Value} {w:List Nat} {K:Prop}:∀{l:List (Nat×Hp)},pB P B i a op v w l K->(∀g∈l,has w g.1=true\/qP P B i g.2 a op v)/\K
 | [],k=>⟨fun p hp=>(by cases hp),k⟩
 | (e,h)::l,k=>by
   simp only[pB,wif] at k
   split at k
   ·rename_i hw
    obtain ⟨k1,k2⟩:=nD k
    refine ⟨fun q hq => ?_,k2⟩
    cases hq with
    | head=>exact .inl (by rw[<-qS];exact hw)
    | tail _ hq=>exact k1 q hq
   ·obtain ⟨u,hu,k⟩:=cX k
    split at k
    ·rename_i hs
     obtain ⟨k1,k2⟩:=nD k
     refine ⟨fun q hq => ?_,k2⟩
     cases hq with
     | head=>exact .inr ⟨u,hu,hs⟩
     | tail _ hq=>exact k1 q hq
    ·exact k.elim
theorem iH {ps:List (List Nat)} {B i:Nat} {a:Ev.A} {op:Op} {v:Value}:∀(gp gs:List (Nat×Hp)),(∀x∈gp,has (aG ps i) x.1=true\/qP P B i x.2 a op v)->bA P (B+i) a op v i ps gs=true->bA P (B+i) a op v i ps (gp++gs)=true
 | [],gs,_,k=>k
 | (e,h)::gp,gs,hp,k=>by
   have ih:=iH gp gs (fun x hx=>hp x (.tail _ hx)) k
   rw[List.cons_append]
   unfold bA
   split
   ·exact ih
   ·rename_i hw
    rcases hp _ (.head _) with q|⟨u,q1,q2⟩
    ·rw[q] at hw;cases hw
    ·simp only[q1,q2]
     split
     ·rfl
     ·exact ih
theorem md {ps:List (List Nat)} {B i:Nat} {a:Ev.A} {op:Op} {v:Value} (gs:List (Nat×Hp)) (hp:∀x∈gs,qP P B i x.2 a op v):bA P (B+i) a op v i ps gs=true:=by
 have:=iH (P:=P) (ps:=ps) (B:=B) (i:=i) gs [] (fun x hx=>.inr (hp x hx)) rfl
 simpa using this
theorem xQ {B:Nat} {all:List Oper} {ps:List (List Nat)} (hf:nO ps=true) {n:Nat}:∀(r:List Oper) (ws pre:List (List Nat)) (i:Nat) {gp:List (Nat×Hp)} {cs:List Cl} {pend:List Pd} {a:Ev.A} {h:Hp} {K:Ev.A->Hp->Prop},
  ps=pre++ws->pre.length=i->r.all (fun o=>dL n o.dst)=true->a.n=n->Ar P B h pend->(∀p∈pend,p.i<i)->DM P B all ws i r gp cs pend a h K ->
  ∃L a1 h1 gs,a1.n=n/\K a1 h1/\nP P L cs/\(∀p∈pend,bA P (B+p.i) p.a p.op p.v p.i ps gs=true) /\
   ∀C,nQ C L->heaps P C true B all i r a h=some gs/\cN P C true B all ps (gp++gs) i r a h=some (a1,h1)
 | [],ws,pre,i,gp,cs,pend,a,h,K,_,_,_,hn,hp,hpi,k=>by
   have k':K a h:=by
    cases ws<;>exact k
   refine ⟨[],a,h,[(i,h)],hn,k',⟨fun _ hc=>(by cases hc),.nil,fun _ hc=>(by cases hc)⟩,?_,fun C _=>⟨rfl,rfl⟩⟩
   intro p hpm
   exact md _ (fun x hx=>by
    cases hx with
    | head=>exact hp p hpm
    | tail _ hx=>cases hx)
 | o::r,[],_,_,_,_,_,_,_,_,_,_,_,_,_,_,k=>k.elim
 | o::r,w::ws,pre,i,gp,cs,pend,a,h,K,hps,hpre,hd,hn,hp,hpi,k=>by
   simp only[List.all_cons,Bool.and_eq_true] at hd
   obtain ⟨hd1,hd2⟩:=hd
   have hw:aG ps i=w:=by
    unfold aG
    rw[hps,List.getElem?_append_right (by omega),<-hpre]
    simp
   have hps':ps=(pre++[w])++ws:=by rw[hps];simp
   have hpre':(pre++[w]).length=i+1:=by simp[hpre]
   have hpi':∀p∈pend,p.i<i+1:=fun p hp=>Nat.lt_succ_of_lt (hpi p hp)
   have eff:∀{C':List Cl} {v:Value} {h2:Hp},am true o.op=false->Ar P B h2 (cJ w pend)->DM P B all ws (i+1) r (gp++[(i,h)]) C' (cJ w pend) (a.set o.dst v) h2 K ->
     ∃L a1 h1 gs,a1.n=n/\K a1 h1/\nP P L C'/\(∀p∈pend,bA P (B+p.i) p.a p.op p.v p.i ps gs=true) /\
      ∀C,nQ C L->bv P C true all (B+i) o a h=some (a.set o.dst v,h2)->heaps P C true B all i (o::r) a h=some gs/\cN P C true B all ps (gp++gs) i (o::r) a h=some (a1,h1):=by
    intro C' v h2 hr hpd hk
    obtain ⟨L,a1,h1,gs,q1,q2,q3,q4,q5⟩:=xQ hf r ws (pre++[w]) (i+1) (n:=n) hps' hpre' hd2 ((A.set_n _ _ _).trans hn) hpd (fun p hp=>hpi' p (fH hp)) hk
    refine ⟨L,a1,h1,(i,h)::gs,q1,q2,q3,?_,?_⟩
    ·intro p hpm
     have hfw:=fwd hf (Nat.le_of_lt (hpi p hpm))
     obtain ⟨u,u1,u2⟩:=hp p hpm
     simp only[bA,hfw,u1,u2,hw]
     rcases lC (w:=w) hpm with q|q
     ·split
      ·rfl
      ·exact q4 p q
     ·rw[q]
    ·intro C hC hs
     obtain ⟨z1,z2⟩:=q5 C hC
     refine ⟨?_,?_⟩
     ·simp only[heaps,hs,z1,hr]
     ·simp only[cN,hs,hr]
      rw[show gp++(i,h)::gs=gp++[(i,h)]++gs by simp]
      exact z2
   have rd:∀{pend':List Pd} {v:Value},am true o.op=true->Ar P B h pend'->(∀p∈pend',p.i<i+1)->(∀p∈pend,p∈pend')->DM P B all ws (i+1) r gp cs pend' (a.set o.dst v) h K ->
     (∀gs,(∀p∈pend',bA P (B+p.i) p.a p.op p.v p.i ps gs=true)->aW all a o=true->∃v,aN P (B+i) h a o.op=some v/\bA P (B+i) a o.op v i ps (gp++gs)=true) ->
     (∀C,bv P C true all (B+i) o a h=some (a.set o.dst v,h)) ->
     ∃L a1 h1 gs,a1.n=n/\K a1 h1/\nP P L cs/\(∀p∈pend,bA P (B+p.i) p.a p.op p.v p.i ps gs=true) /\
      ∀C,nQ C L->heaps P C true B all i (o::r) a h=some gs/\cN P C true B all ps (gp++gs) i (o::r) a h=some (a1,h1):=by
    intro pend' v hr hpd hpi2 hsub hk hst hstep
    obtain ⟨L,a1,h1,gs,q1,q2,q3,q4,q5⟩:=xQ hf r ws (pre++[w]) (i+1) (n:=n) hps' hpre' hd2 ((A.set_n _ _ _).trans hn) hpd hpi2 hk
    refine ⟨L,a1,h1,gs,q1,q2,q3,fun p hp=>q4 p (hsub p hp),fun C hC => ?_⟩
    obtain ⟨z1,z2⟩:=q5 C hC
    have hs:=hstep C
    refine ⟨by simp only[heaps,hs,z1,hr],?_⟩
    simp only[cN,hs,hr]
    cases hwd:aW all a o with
    | false=>exact z2
    | true =>
      obtain ⟨u,u1,u2⟩:=hst gs q4 hwd
      simp only[u1,u2]
      exact z2
   simp only[DM,wif,jL] at k
   split at k
   ·rename_i hwd
    split at k
    ·rename_i hr
     obtain ⟨v,hv,k⟩:=cX k
     split at k
     ·rename_i hs
      have hstep:∀C,bv P C true all (B+i) o a h=some (a.set o.dst v,h):=by
       intro C
       simp only[bv,hwd,dD,hr,hv,nz,A.put_ok v hd1 hn]
      split at k
      ·obtain ⟨k1,k⟩:=nD k
       refine rd hr ?_ ?_ (fun p hp=>.tail _ hp) k ?_ hstep
       ·intro p hpm
        cases hpm with
        | head=>exact ⟨v,hv,hs⟩
        | tail _ hpm=>exact hp p hpm
       ·intro p hpm
        cases hpm with
        | head=>exact lSs _
        | tail _ hpm=>exact hpi' p hpm
       ·intro gs hst _
        refine ⟨v,hv,iH gp gs ?_ (hst _ (.head _))⟩
        intro x hx
        rw[hw]
        exact k1 x hx
      ·rename_i hu
       refine rd hr hp hpi' (fun p hp=>hp) k ?_ hstep
       intro gs _ _
       exact ⟨v,hv,md _ (fun x _=>⟨v,(wh hr hu _ _ _ _).trans hv,hs⟩)⟩
     ·exact k.elim
    ·rename_i hr
     have hr1:=wg hr
     split at k
     ·rename_i f args hc
      obtain ⟨v,h2,s,hfr,k⟩:=k
      obtain ⟨k1,k⟩:=tM k
      obtain ⟨L,a1,h1,gs,q1,q2,q3,q4,q5⟩:=eff hr k1 k
      refine ⟨⟨f,args,h,v,h2⟩::L,a1,h1,gs,q1,q2,⟨?_,?_,?_⟩,q4,?_⟩
      ·intro c hc
       cases hc with
       | head=>exact s
       | tail _ hc=>exact q3.1 c hc
      ·refine .cons (fun d hd=>q3.2.2 d hd _ (.head _)) q3.2.1
      ·intro c hc d hd
       cases hc with
       | head=>exact nM hfr d hd
       | tail _ hc=>exact q3.2.2 c hc d (.tail _ hd)
      ·intro C hC
       refine q5 C (fun c hc=>hC c (.tail _ hc)) ?_
       have hcall:=hC _ (.head _)
       simp only at hcall
       simp only[bv,hwd,dD,hr,fi,hr1,hc,hcall,A.put_ok v hd1 hn]
     ·rename_i hc
      obtain ⟨⟨v,h2⟩,s,k⟩:=cX k
      obtain ⟨k1,k⟩:=tM k
      obtain ⟨L,a1,h1,gs,q1,q2,q3,q4,q5⟩:=eff hr k1 k
      refine ⟨L,a1,h1,gs,q1,q2,q3,q4,fun C hC=>q5 C hC ?_⟩
      simp only[bv,hwd,dD,hr,fi,hr1,hc,s,A.put_ok v hd1 hn]
   ·rename_i hwd
    have hstep:∀C,bv P C true all (B+i) o a h=some (a.set o.dst ai,h):=by
     intro C
     simp only[bv,hwd,A.put_ok ai hd1 hn]
    split at k
    ·rename_i hr
     exact rd hr hp hpi' (fun p hp=>hp) k (fun _ _ e=>by rw[hwd] at e;cases e) hstep
    ·rename_i hr
     obtain ⟨L,a1,h1,gs,q1,q2,q3,q4,q5⟩:=eff hr (fun p hpm=>hp p (fH hpm)) k
     exact ⟨L,a1,h1,gs,q1,q2,q3,q4,fun C hC=>q5 C hC (hstep C)⟩
theorem me {B:Nat} {C:bI} {all:List Oper} {ps qs:List (List Nat)} (k:∀j e,has (aG ps j) e=has (aG qs j) e) (gs:List (Nat×Hp)):∀(r:List Oper) (i:Nat) (a:Ev.A) (h:Hp),cN P C true B all ps gs i r a h=cN P C true B all qs gs i r a h
 | [],_,_,_=>rfl
 | o::r,i,a,h=>by
   simp only[cN,iL k]
   cases bv P C true all (B+i) o a h with
   | none=>rfl
   | some p=>simp only[me k gs r]
def mO (n:Nat) (ps:List (List Nat)) (ops:List Oper):Bool:=match dp true ops,nO ps,ops.all (fun o=>dL n o.dst),gK (dG ops) ps with
 | true,true,true,true=>true
 | _,_,_,_=>false
def pu (h:Hp) (k:Nat) (l:List (Nat×ak)):Hp:=jX h.next k l { h with next:=h.next+k }
theorem As (W:WfP P) {C:bI} {ρ:Rho} {N:Bs} {w:World} {a:Ev.A} {act:Act} (HC:bO P C) {ops:Array Oper} {id:Nat} {a1:Ev.A} {h1:Hp} (l:List (Nat×ak)) (hord:dp true ops.toList=true) (H:HR P ρ N h w) (A:ActR ρ a act)
  (h0:drawn P C true h.next ops.toList a (pu h ops.size l)=some (a1,h1)) {Q:Exit->Act->World->Prop}
  (hQ:∀ ρ1 w1 act1,ρ.le ρ1->ActR ρ1 a1 act1->HR P ρ1 N h1 w1->Below N w w1->Q .normal act1 w1):(Code.region id ops true).wp P Q act w:=by
 have H1:=HR.room (n:=N.n) (g:=N.g) H ops.size
 have H2:=jk (base:=h.next) (k:=ops.size) (fun i hi=>.inr ⟨by omega,by omega⟩) l _ H1 (fun i hi r hr=>by
  have:=H.cover _ _ hr
  omega)
 refine nH (mk:=true) (base:=h.next) (N:=N) W HC hord (fun _ b hb=>(H.gho b hb).2) (H2.less (fun b hb => ?_)) A h0 hQ
 rcases hb with hb|⟨_,i,o,e1,e2,_,_⟩
 ·exact .inl hb
 ·have:i<ops.size:=(Array.getElem?_eq_some_iff.1 e2).1
  exact .inr ⟨by omega,by omega⟩
theorem Dx (W:WfP P) {ops:List Oper} {n:Nat} {ps:List (List Nat)} {a:Ev.A} {h:Hp} (l:List (Nat×ak)) {id:Nat} {Q:Ex->Ev.A->Hp->Prop} (hn:a.n=n) (ho:mO n ps ops=true) (k:DM P h.next ops ps 0 ops [] [] [] a (pu h ops.length l) (Q .normal)) :
  Nd P (.region id ops.toArray true) a h Q:=by
 unfold mO at ho
 split at ho
 ·rename_i h1 h2 h3 hps
  obtain ⟨L,a1,h1',gs,q1,q2,q3,_,q5⟩:=xQ h2 ops ps [] 0 (n:=n) rfl rfl h3 hn (fun _ hp=>by cases hp) (fun _ hp=>by cases hp) k
  obtain ⟨C,HC,hk⟩:=fD L q3
  obtain ⟨z1,z2⟩:=q5 C hk
  intro N ρ w act H A Qm hQ
  rw[List.nil_append] at z2
  refine As W HC l (by simpa using h1) H A (a1:=a1) (h1:=h1') (by simp only[drawn,List.size_toArray,z1,me (iK hps),z2]) (fun ρ1 w1 act1 r1 r2 r3 r4=>hQ .normal a1 h1' ρ1 w1 act1 q2 (q1.trans hn.symm) r1 r2 r3 r4)
 ·cases ho
def PdM (P:Program) (B:Nat) (h:Hp) (l:List Pd) (K:Prop) (_:Tag K):Prop:=pdM P B h l K
def pC (P:Program) (B i:Nat) (a:Ev.A) (op:Op) (v:Value) (w:List Nat) (l:List (Nat×Hp)) (K:Prop) (_:Tag K):Prop:=pB P B i a op v w l K
def DMt (P:Program) (B:Nat) (all:List Oper) (ws:List (List Nat)) (i:Nat) (r:List Oper) (gp:List (Nat×Hp)) (cs:List Cl) (pend:List Pd) (a:Ev.A) (h:Hp) (K:Ev.A->Hp->Prop) (_:Tag all) (_:Tag ws) (_:Tag r) (_:Tag K):Prop:=DM P B all ws i r gp cs pend a h K
section
attribute [local semireducible] Opt Wif iM Dn
variable {B:Nat}
theorem At (K:Prop) (t:Tag K):PdM P B h [] K t=K:=nr rfl
theorem xR (p:Pd) (l:List Pd) (K:Prop) (t:Tag K):PdM P B h (p::l) K t=Opt (aN P (B+p.i) h p.a p.op) (fun u=>Wif (aB 9 p.v u) (PdM P B h l K ⟨⟩) False ⟨⟩ ⟨⟩) ⟨⟩:=nr rfl
theorem wj (i:Nat) (a:Ev.A) (op:Op) (v:Value) (w:List Nat) (K:Prop) (t:Tag K):pC P B i a op v w [] K t=K:=nr rfl
theorem tN (i:Nat) (a:Ev.A) (op:Op) (v:Value) (w:List Nat) (e:Nat) (h:Hp) (l:List (Nat×Hp)) (K:Prop) (t:Tag K):pC P B i a op v w ((e,h)::l) K t =
 Wif (nI w e) (pC P B i a op v w l K ⟨⟩) (Opt (aN P (B+i) h a op) (fun u=>Wif (aB 9 v u) (pC P B i a op v w l K ⟨⟩) False ⟨⟩ ⟨⟩) ⟨⟩) ⟨⟩ ⟨⟩:=nr rfl
theorem Az (all:List Oper) (ws:List (List Nat)) (i:Nat) (gp:List (Nat×Hp)) (cs:List Cl) (pend:List Pd) (a:Ev.A) (h:Hp) (K:Ev.A->Hp->Prop) (t1:Tag all) (t2:Tag ws) (t3:Tag ([]:List Oper)) (t4:Tag K) :
  DMt P B all ws i [] gp cs pend a h K t1 t2 t3 t4=K a h:=by
 cases ws<;>exact nr rfl
theorem xT (all:List Oper) (w:List Nat) (ws:List (List Nat)) (i:Nat) (o:Oper) (r:List Oper) (gp:List (Nat×Hp)) (cs:List Cl) (pend:List Pd) (a:Ev.A) (h:Hp) (K:Ev.A->Hp->Prop) (t1:Tag all) (t2:Tag (w::ws)) (t3:Tag (o::r)) (t4:Tag K) :
 DMt P B all (w::ws) i (o::r) gp cs pend a h K t1 t2 t3 t4 =
 Wif (aW all a o)
  (Wif (am true o.op)
   (Opt (aN P (B+i) h a o.op) (fun v=>Wif (aB 9 v v) (Wif (gI o.op) (pC P B i a o.op v w gp (DMt P B all ws (i+1) r gp cs (⟨i,a,o.op,v⟩::pend) (a.set o.dst v) h K ⟨⟩ ⟨⟩ ⟨⟩ ⟨⟩) ⟨⟩) (DMt P B all ws (i+1) r gp cs pend (a.set o.dst v) h K ⟨⟩ ⟨⟩ ⟨⟩ ⟨⟩) ⟨⟩ ⟨⟩) False ⟨⟩ ⟨⟩) ⟨⟩)
   (iM (cR a o.op) (fun f args=>∃v h1,Snd P f args h v h1/\nJ f args h cs/\PdM P B h1 (cJ w pend) (DMt P B all ws (i+1) r (gp++[(i,h)]) (⟨f,args,h,v,h1⟩::cs) (cJ w pend) (a.set o.dst v) h1 K ⟨⟩ ⟨⟩ ⟨⟩ ⟨⟩) ⟨⟩)
    (Opt (cq P h a o.op) (fun p=>PdM P B p.2 (cJ w pend) (DMt P B all ws (i+1) r (gp++[(i,h)]) cs (cJ w pend) (a.set o.dst p.1) p.2 K ⟨⟩ ⟨⟩ ⟨⟩ ⟨⟩) ⟨⟩) ⟨⟩) ⟨⟩ ⟨⟩) ⟨⟩ ⟨⟩)
  (Wif (am true o.op) (DMt P B all ws (i+1) r gp cs pend (a.set o.dst ai) h K ⟨⟩ ⟨⟩ ⟨⟩ ⟨⟩) (DMt P B all ws (i+1) r (gp++[(i,h)]) cs (cJ w pend) (a.set o.dst ai) h K ⟨⟩ ⟨⟩ ⟨⟩ ⟨⟩) ⟨⟩ ⟨⟩) ⟨⟩ ⟨⟩:=nr rfl
theorem AA (W:WfP P) {id:Nat} {ops:List Oper} {n:Nat} (ps:List (List Nat)) (l:List (Nat×ak)) {a:Ev.A} {h:Hp} {Q:Ex->Ev.A->Hp->Prop} {t:Tag ops} {u:Tag Q} (hn:a.n=n) (ho:mO n ps ops=true)
 (k:DMt P h.next ops ps 0 ops [] [] [] a (pu h ops.length l) (Q .normal) ⟨⟩ ⟨⟩ ⟨⟩ ⟨⟩):Dn P id ops a h Q t u:=Dx W l hn ho k
end
attribute [irreducible] PdM pC DMt
attribute [go_sem] At xR wj tN Az xT gI am gU aN dC
end
end Go.Ev
end
section
namespace Go.Ev.Z24
open Go.RowKit Go.Proofs
def ltB (x s:ByteArray):Bool:=dQ x.data.toList s.data.toList
def An (ss:List ByteArray) (s:ByteArray):Nat:=ss.findIdx fun x => !ltB x s
def Du (ss:List ByteArray) (s:ByteArray):List ByteArray:=match ss[An ss s]? with
 | some x=>if x.data.toList=s.data.toList then ss else ss.take (An ss s)++[s]++ss.drop (An ss s)
 | none=>ss.take (An ss s)++[s]++ss.drop (An ss s)
def hiV:Value->Nat->Value
 | .slice A _ c,i=>.slice A i c
 | v,_=>v
def loV:Value->Nat->Value
 | .slice A n c,i=>.slice (A.map (·.add (i*1))) (n - i) (c - i)
 | v,_=>v
theorem tI {a b:Nat} (h:a<=b):Nat.ble a b=true:=by simpa using h
theorem pq:∀(l:List Value) (i:Nat),i<=l.length->bU l i=some (l.take i)
 | l,0,_=>by simp[bU]
 | [],i+1,h=>absurd h (by simp)
 | v::l,i+1,h=>by simp only[bU,pq l i (by simpa using h),List.take_succ_cons]
theorem pt {P:Program} {f:FuncId} {args:List Value} {v:Value} {h h1:Hp} (s:Sns P f args h (fun v' h'=>v'=v/\h'=h1)):Snd P f args h v h1 :=
 ⟨s.1,fun ρ N w args' H A=>(s.2 ρ N w args' H A).mono fun _ _ ⟨v',h',ρ1,u,⟨e1,e2⟩,r⟩=>by
  subst e1;subst e2
  exact ⟨ρ1,u,r⟩⟩
theorem v6 {P:Program} (W:WfP P) {id:Nat} {ops:List Oper} {n:Nat} (ps:List (List Nat)) {l:List (Nat×ak)} {a:Ev.A} {h H0:Hp} {Q:Ex->Ev.A->Hp->Prop} {t:Tag ops} {u:Tag Q} (hn:a.n=n) (ho:mO n ps ops=true) (hH:pu h ops.length l=H0)
 (k:DMt P h.next ops ps 0 ops [] [] [] a H0 (Q .normal) ⟨⟩ ⟨⟩ ⟨⟩ ⟨⟩):Dn P id ops a h Q t u:=AA W ps l hn ho (by rw[hH];exact k)
theorem Ao {h:Hp} {k i:Nat} {c:List Value} {e:TypeId} (hi:Nat.blt i k=true):Ext h (pu h k [(i,.cells ⟨c,e,0,0,false⟩)])/\(pu h k [(i,.cells ⟨c,e,0,0,false⟩)]).objs.get (h.next+i)=some (.cells ⟨c,e,0,0,false⟩)/\(pu h k [(i,.cells ⟨c,e,0,0,false⟩)]).next=h.next+k:=by
 have e1:pu h k [(i,.cells ⟨c,e,0,0,false⟩)]=Hp.put { h with next:=h.next+k } (h.next+i) (.cells ⟨c,e,0,0,false⟩):=by
  simp only[pu,jX,hi,jg]
 rw[e1]
 refine ⟨⟨rfl,rfl,Nat.le_add_right _ _,fun b hb => ?_,lRf _,fun _ _=>rfl⟩,by rw[bJ,if_pos rfl],rfl⟩
 rw[bJ,if_neg (by omega)]
theorem OwnE.same {e:TypeId} {h:Hp} {n0 f0:Nat} {cs:List Value} {v:Value} (k:OwnE e h n0 f0 cs v) (j:Nat):aB j v v=true:=by
 rcases k with ⟨_,rfl⟩|⟨b,f,hl,rfl,hr,hb,hf⟩
 ·exact ab rfl _ _ _
 ·exact ab rfl _ _ _
section
mutual
def psz:ad->Nat
 | ⟨_,_,l⟩=>1+u5 l
def u5:List ad->Nat
 | []=>0
 | x::l=>psz x+u5 l
end
theorem Dv (d t:ByteArray) (l:List ad):psz ⟨d,t,l⟩=1+u5 l:=by rw[psz]
theorem xM (x:ad) (l:List ad):u5 (x::l)=psz x+u5 l:=by rw[u5]
def unW:List ar->List Bool->Nat
 | [],_=>0
 | x::G,[]=>psz x.body+unW G []
 | x::G,b::bs=>(if b=true then 0 else psz x.body)+unW G bs
theorem wc:∀{G:List ar} {bs:List Bool} {i:Nat} {x:ar},G[i]? = some x->bs[i]? = some false->unW G (bs.set i true)+psz x.body=unW G bs
 | y::G,b::bs,0,x,h1,h2=>by
   simp at h1 h2
   subst h1;subst h2
   simp[unW]
   omega
 | y::G,b::bs,i+1,x,h1,h2=>by
   have:=wc (G:=G) (bs:=bs) (i:=i) (x:=x) (by simpa using h1) (by simpa using h2)
   simp only[List.set_cons_succ,unW]
   omega
def wSt (G:List ar) (s:StF):Nat:=s.2.length+unW G s.1
def tsz:pp->Nat
 | .part p=>psz p
 | .kids l _=>u5 l
variable {G:List ar} {em:List Bool}
theorem Ca {rc:pp->StF->Option StF} (ih:∀t s o,s.1.length=G.length->rc t s=some o->wSt G o<=wSt G s+tsz t/\o.1.length=G.length) :
  ∀t s o,s.1.length=G.length->Am G em rc t s=some o->wSt G o<=wSt G s+tsz t/\o.1.length=G.length:=by
 intro t s o hl k
 have hGl:(nms G).length=G.length:=by simp[nms]
 match t with
 | .part ⟨d,t,l⟩ =>
   simp only[tsz,Dv]
   unfold Am at k
   simp only[] at k
   split at k
   ·injection k with k
    subst k
    exact ⟨by simp only[wSt,List.length_append,List.length_cons,List.length_nil];omega,hl⟩
   split at k
   ·injection k with k
    subst k
    exact ⟨by simp only[wSt,List.length_append,List.length_cons,List.length_nil];omega,hl⟩
   split at k
   ·split at k
    ·injection k with k
     subst k
     exact ⟨by omega,hl⟩
    ·rename_i hns
     obtain ⟨q1,q2⟩:=ih _ _ _ (by simpa using hl) k
     refine ⟨?_,q2⟩
     simp only[tsz] at q1
     by_cases hi:ae (nms G) t<G.length
     ·have e1:G[ae (nms G) t]? = some G[ae (nms G) t]:=gEl hi
      have hi2:ae (nms G) t<s.1.length:=by omega
      have e2:s.1[ae (nms G) t]? = some false:=by
       rw[List.getD_eq_getElem?_getD,gEl hi2] at hns
       rw[gEl hi2]
       cases hc:s.1[ae (nms G) t] with
       | false=>rfl
       | true=>rw[hc] at hns;exact absurd rfl hns
      have e3:=wc e1 e2
      have e4:eS G t=G[ae (nms G) t].body:=by
       unfold eS
       rw[e1]
      rw[e4] at q1
      simp only[wSt] at q1 ⊢
      omega
     ·have e1:G[ae (nms G) t]? = none:=List.getElem?_eq_none (by omega)
      have e4:psz (eS G t)=1:=by
       unfold eS
       rw[e1]
       rfl
      rw[List.set_eq_of_length_le (by omega),e4] at q1
      simp only[wSt] at q1 ⊢
      omega
   split at k
   ·injection k with k
    subst k
    exact ⟨by omega,hl⟩
   ·obtain ⟨q1,q2⟩:=ih _ _ _ hl k
    simp only[tsz] at q1
    exact ⟨by omega,q2⟩
 | .kids [] sq =>
   injection k with k
   subst k
   exact ⟨by omega,hl⟩
 | .kids (x::l) sq =>
   change (rc (.part x) s).bind _=some o at k
   rw[Option.bind_eq_some_iff] at k
   obtain ⟨s1,h1,h2⟩:=k
   obtain ⟨q1,q2⟩:=ih _ _ _ hl h1
   simp only[tsz,xM] at q1 ⊢
   split at h2
   ·injection h2 with h2
    subst h2
    exact ⟨by omega,q2⟩
   ·obtain ⟨q3,q4⟩:=ih _ _ _ q2 h2
    simp only[tsz] at q3
    exact ⟨by omega,q4⟩
theorem Ap:∀(k:Nat) t s o,s.1.length=G.length->Dt G em k t s=some o->wSt G o<=wSt G s+tsz t/\o.1.length=G.length
 | 0,_,_,_,_,h=>by cases h
 | k+1,t,s,o,hl,h=>Ca (fun t s o hl h=>Ap k t s o hl h) t s o hl h
theorem RunsF.W {t:pp} {s o:StF} (h:RunsF G em t s o) (hl:s.1.length=G.length):wSt G o<=wSt G s+tsz t:=by
 obtain ⟨k,h⟩:=h
 exact (Ap k _ _ _ hl h).1
def l7 (log:List ByteArray):List ByteArray:=log.foldl Du []
theorem tJ (log:List ByteArray) (s:ByteArray):l7 (log++[s])=Du (l7 log) s:=by
 unfold l7
 rw[List.foldl_append]
 rfl
end
section
variable {r:Ro} {G:List ar} {em:List Bool} {eb tb ob:Nat} {Gv:Option Addr} {gc:Nat}
structure RSt (h:Hp) (G:List ar) (tb ob:Nat) (s:StF):Prop where
 own:h.own tb 4 (s.1.map .bool)
 out:∃v,h.own ob 34 [v]/\OwnE 9 h 0 0 (dw (l7 s.2)) v
 len:s.1.length=G.length
theorem RSt.ext {h h1:Hp} (x:Ext h h1) {s:StF} (k:RSt h G tb ob s):RSt h1 G tb ob s :=
 ⟨aj x k.own,k.out.elim fun v q=>⟨v,aj x q.1,q.2.ext x⟩,k.len⟩
@[go_sem] theorem Ga (h : Hp) (a : Addr) (v : Value) : bc Tryz.prog h 34 a v = match Nat.beq v.cells.toList.length 1 with | true => h.stores a v.cells.toList | false => none := bH Dj h a v
theorem OwnE.cell {e:TypeId} {h:Hp} {n0 f0:Nat} {cs:List Value} {v:Value} (k:OwnE e h n0 f0 cs v):[v].all oneCell=true:=by
 rcases k with ⟨_,rfl⟩|⟨b,f,hl,rfl,hr,hb,hf⟩<;>rfl
theorem RSt.put {h h1:Hp} {s:StF} (k:RSt h G tb ob s) (x:Ext h h1) (hne:tb≠ob) {t:ByteArray} {u:Value} (hO:OwnE 9 h1 0 0 (dw (Du (l7 s.2) t)) u):RSt (h1.put ob (.cells ⟨[u],34,0,0,false⟩)) G tb ob (s.1,s.2++[t]):=by
 obtain ⟨v,q1,q2⟩:=k.out
 refine ⟨dV (aj x k.own) hne _,⟨u,av (aj x q1) _,?_⟩,k.len⟩
 show OwnE 9 _ 0 0 (dw (l7 (s.2++[t]))) u
 rw[tJ]
 rcases hO with q|⟨b,f,hl,e,hr,hb,hf⟩
 ·exact .inl q
 ·refine .inr ⟨b,f,hl,e,bR (S:=aR ob) ((Ext.refl h1).toS.put (S:=aR ob) (b:=ob) (.inr rfl) _) hr (fun c => ?_),hb,hf⟩
  have:=lw hr (aj x q1) (by decide)
  exact this c.symm
end
section
variable {r:Ro}
@[go_sem] theorem z25 : bE Tryz.prog 34 = some (.slice none 0 0) := by kernel_rfl
theorem jf {nm:List ByteArray} {s:ByteArray} (h:ae nm s<nm.length):ay nm (jT s)=true:=by
 unfold jT
 rw[ay]
 unfold aU
 rw[if_neg (by decide),if_pos (by decide)]
 simp[b6,h]
end
section
variable {r:Ro} {l:List ar}
def Hp.more (h:Hp):Hp:={ h with next:=h.next+1 }
end
end Go.Ev.Z24
end
section
namespace Go.Ev
open Go.RowKit
def Cb (ps:List (List Nat)) (i:Nat) (l:List Edge):Bool:=match fC i l,(aG ps i).all (fun x=>l.any fun e=>Region.binds .any e&&(Nat.beq x e.on||has (aG ps e.on) x)),l.all (fun e => !Region.binds .any e||(has (aG ps i) e.on&&(aG ps e.on).all (has (aG ps i)))) with
 | true,true,true=>true
 | _,_,_=>false
def mR (ps:List (List Nat)):Nat->List Oper->Bool
 | _,[]=>true
 | i,o::r=>match Cb ps i o.after.toList with
   | true=>mR ps (i+1) r
   | false=>false
theorem mS {l:List Nat} {i:Nat}:has l i=true<->i∈l:=mU
theorem vg (acc:List (List Nat)) (x:Nat):∀l:List Edge,has (cI acc l) x=l.any fun e=>Region.binds .any e&&(Nat.beq x e.on||has (aG acc e.on) x)
 | []=>rfl
 | e::l=>by
   have ih:=vg acc x l
   simp only[cI,List.any_cons]
   cases hb:Region.binds .any e with
   | false=>simp only[ih,Bool.false_and,Bool.false_or]
   | true =>
     have:has (e.on::((acc[e.on]?).getD [])++cI acc l) x=(Nat.beq x e.on||has (aG acc e.on) x||has (cI acc l) x):=by
      simp only[has,List.cons_append,List.any_cons,List.any_append,aG,Bool.or_assoc]
     simp only[this,ih,Bool.true_and]
theorem ku {i:Nat}:∀{l:List Edge},fC i l=true->∀e∈l,Region.binds .any e=true->e.on<i
 | e::l,h,x,hx,hb=>by
   simp only[fC] at h
   cases hx with
   | head =>
     rw[hb] at h
     simp only at h
     split at h
     ·rename_i c;simpa using c
     ·cases h
   | tail _ hx =>
     split at h
     ·split at h
      ·exact ku h x hx hb
      ·cases h
     ·exact ku h x hx hb
theorem mj {ps:List (List Nat)}:∀(r:List Oper) (acc:List (List Nat)),(∀j,j<acc.length->∀x,has (aG acc j) x=has (aG ps j) x)->mR ps acc.length r=true ->
  (dF acc r).length=acc.length+r.length/\∀j,j<acc.length+r.length->∀x,has (aG (dF acc r) j) x=has (aG ps j) x
 | [],acc,h,_=>⟨rfl,fun j hj x=>h j hj x⟩
 | o::r,acc,h,hl=>by
   simp only[mR] at hl
   split at hl
   ·rename_i hrow
    unfold Cb at hrow
    split at hrow
    ·rename_i h1 h2 h3
     have row:∀x,has (cI acc o.after.toList) x=has (aG ps acc.length) x:=by
      intro x
      rw[vg,Bool.eq_iff_iff]
      constructor
      ·intro hx
       obtain ⟨e,he,hx⟩:=List.any_eq_true.1 hx
       rw[Bool.and_eq_true] at hx
       obtain ⟨hb,hx⟩:=hx
       have hlt:=ku h1 e he hb
       have:=List.all_eq_true.1 h3 e he
       rw[hb,Bool.not_true,Bool.false_or,Bool.and_eq_true] at this
       rw[Bool.or_eq_true] at hx
       rcases hx with hx|hx
       ·rw[Nat.eq_of_beq_eq_true hx]
        exact this.1
       ·rw[h _ hlt] at hx
        exact List.all_eq_true.1 this.2 x (mS.1 hx)
      ·intro hx
       have:=List.all_eq_true.1 h2 x (mS.1 hx)
       obtain ⟨e,he,hx⟩:=List.any_eq_true.1 this
       rw[Bool.and_eq_true] at hx
       obtain ⟨hb,hx⟩:=hx
       refine List.any_eq_true.2 ⟨e,he,?_⟩
       rw[hb,Bool.true_and,h _ (ku h1 e he hb)]
       exact hx
     have hlen:(acc++[cI acc o.after.toList]).length=acc.length+1:=by simp
     obtain ⟨q1,q2⟩:=mj (ps:=ps) r (acc++[cI acc o.after.toList]) (fun j hj x=>by
      rw[hlen] at hj
      by_cases c:j<acc.length
      ·rw[<-h j c x]
       unfold aG
       rw[List.getElem?_append_left c]
      ·have:j=acc.length:=by omega
       subst this
       rw[<-row x]
       unfold aG
       rw[List.getElem?_append_right (lRf _)]
       simp) (by rw[hlen];exact hl)
     rw[hlen] at q1 q2
     refine ⟨?_,fun j hj x => ?_⟩
     ·simp only[dF,q1,List.length_cons]
      omega
     ·simp only[dF]
      exact q2 j (by rw[List.length_cons] at hj;omega) x
    ·cases hrow
   ·cases hl
theorem kw {m:Bool} {arr:Array Oper} {ps qs:List Nat} (k:∀x,has ps x=has qs x) (y:Oper):∀(l:List Oper) (i:Nat),gV m arr ps y i l=gV m arr qs y i l
 | [],_=>rfl
 | x::l,i=>by simp only[gV,k,kw k y l]
theorem jG {m:Bool} {ops:List Oper} {arr:Array Oper} {ps qs:List (List Nat)} (k:∀j x,has (aG ps j) x=has (aG qs j) x):∀(r:List Oper) (j:Nat),gv m ops arr ps j r=gv m ops arr qs j r
 | [],_=>rfl
 | y::r,j=>by simp only[gv,kw (k j),jG k r]
def nU (m:Bool) (n:Nat) (ps:List (List Nat)) (ops:List Oper):Bool:=match mR ps 0 ops,Nat.beq ps.length ops.length,gv m ops ops.toArray ps 0 ops,nO ps,ops.all (fun o=>dL n o.dst) with
 | true,true,true,true,true=>true
 | _,_,_,_,_=>false
theorem wv {m:Bool} {n:Nat} {ps:List (List Nat)} {ops:List Oper} (h:nU m n ps ops=true):dp m ops=true/\nO ps=true/\ops.all (fun o=>dL n o.dst)=true/\gK (dG ops) ps=true:=by
 unfold nU at h
 split at h
 ·rename_i h1 h2 h3 h4 h5
  have hl:ps.length=ops.length:=by simpa using h2
  obtain ⟨q1,q2⟩:=mj (ps:=ps) ops [] (fun j hj=>absurd hj (lNz _)) h1
  rw[List.length_nil,Nat.zero_add] at q1 q2
  have k:∀j x,has (aG (dG ops) j) x=has (aG ps j) x:=by
   intro j x
   by_cases c:j<ops.length
   ·exact q2 j c x
   ·have e1:aG (dG ops) j=[]:=by
     unfold aG
     rw[List.getElem?_eq_none (by unfold dG;omega)]
     rfl
    have e2:aG ps j=[]:=by
     unfold aG
     rw[List.getElem?_eq_none (by omega)]
     rfl
    rw[e1,e2]
  refine ⟨?_,h4,h5,?_⟩
  ·unfold dp
   rw[jG k]
   exact h3
  ·unfold gK
   have:Nat.beq (dG ops).length ps.length=true:=by
    rw[show (dG ops).length=ops.length from q1,hl]
    simp
   rw[this]
   refine List.all_eq_true.2 fun j _ => ?_
   rw[Bool.and_eq_true]
   exact ⟨List.all_eq_true.2 fun x hx=>by rw[<-k];exact mS.2 hx,List.all_eq_true.2 fun x hx=>by rw[k];exact mS.2 hx⟩
 ·cases h
theorem ao {n:Nat} {ps:List (List Nat)} {ops:List Oper} (h:nU false n ps ops=true):gX n ps ops=true:=by
 obtain ⟨h1,h2,h3,h4⟩:=wv h
 unfold gX
 rw[h1,h2,h3,h4]
end Go.Ev
end
section
namespace Go.Ev.Z24
open Go.RowKit Go.Proofs
section
variable {r:Ro} {G:List ar} {Gv:Option Addr} {gc:Nat}
theorem StrsAt.same {h:Hp} {v:Value} {ss:List ByteArray} (k:StrsAt h v ss) (j:Nat):aB j v v=true:=by
 obtain ⟨A,c,rfl,hs,_⟩:=k
 exact ab hs _ _ _
end
end Go.Ev.Z24
end
section
namespace Go.Ev.Z24
open Go.ChangeShapes Go.WideShapes Go.ChangeAt Go.RowKit Go.Proofs
section
open Go.ChangeMaps (open_string shut_string)
theorem yN {w:World} {b k:Nat} {v:Value} (h:w.cell? ⟨b,k,none⟩=some v) (hv:VR (ls w) (fe v) v):(roW w).f b k=some (fe v):=by
 unfold roW
 simp only[h]
 rw[if_pos hv]
theorem Bp {w:World} {a:Addr} {v:Value} (h:w.cell? a=some v):a.spot=none/\a.block<w.heap.size:=by
 unfold World.cell? at h
 split at h
 ·rename_i c _ _ hc
  refine ⟨?_,?_⟩
  ·cases hs:a.spot with
   | none=>rfl
   | some s=>rw[hs] at h;simp at h
  ·rcases Nat.lt_or_ge a.block w.heap.size with q|q
   ·exact q
   ·rw[Array.getElem?_eq_none q] at hc;cases hc
 ·cases h
theorem kL {a:Addr} (h:a.spot=none):a=⟨a.block,a.off,none⟩:=by
 cases a
 simp at h
 subst h
 rfl
theorem sC {a:Addr} (h:a.spot=none) (n:Nat):a.add n=⟨a.block,a.off+n,none⟩:=by
 unfold Addr.add
 split
 ·rename_i e
  subst e
  exact kL h
 ·rfl
structure OkS (w:World) (A:Option Addr) (n c:Nat):Prop where
 le:n<=c
 nil:A=none->n=0/\c=0
 at':∀a,A=some a->0<c->a.spot=none/\a.block<w.heap.size
def fy (A:Option Addr) (c:Nat):Option Addr:=match A with
 | none=>none
 | some a=>if c=0 then some ⟨0,0,none⟩ else some a
theorem im (A:Option Addr) (n c:Nat):fe (.slice A n c)=.slice (fy A c) n c:=by
 cases A with
 | none=>rfl
 | some a =>
   by_cases hc:c=0<;>simp[fe,fy,hc]
theorem OkS.spotless {w:World} {A:Option Addr} {n c:Nat} (k:OkS w A n c):spotless (fy A c)=true:=by
 cases A with
 | none=>rfl
 | some a =>
   by_cases hc:c=0
   ·simp[fy,hc,Go.Ev.spotless]
   ·have:=(k.at' a rfl (by omega)).1
    simp[fy,hc,Go.Ev.spotless,this]
theorem OkS.vr {w:World} {A:Option Addr} {n c:Nat} (k:OkS w A n c) (hp:0<w.heap.size):VR (ls w) (fe (.slice A n c)) (.slice A n c):=by
 rw[im]
 cases A with
 | none =>
   obtain ⟨rfl,rfl⟩:=k.nil rfl
   exact .slNil
 | some a =>
   unfold fy
   by_cases hc:c=0
   ·subst hc
    have hn:n=0:=by have:=k.le;omega
    subst hn
    exact .slZero _ _ (i:=⟨0,0,0,0,true⟩) (by unfold ls;rw[if_pos hp])
   ·have:=k.at' a rfl (by omega)
    simp only[if_neg hc]
    exact .sl (i:=⟨a.block,0,0,0,true⟩) ⟨this.1,by unfold ls;rw[if_pos this.2],by rw[Nat.zero_add];exact kL this.1⟩ (.inl rfl)
theorem mA {α:Type} {Q:Nat->α->Prop}:∀n,(∀i,i<n->∃y,Q i y)->∃ys:List α,ys.length=n/\∀(i:Nat) (y:α),ys[i]? = some y->Q i y
 | 0,_=>⟨[],rfl,fun i y h=>by simp at h⟩
 | n+1,h=>by
   obtain ⟨ys,h1,h2⟩:=mA n (fun i hi=>h i (by omega))
   obtain ⟨y,hy⟩:=h n (by omega)
   refine ⟨ys++[y],by simp[h1],fun i z hz => ?_⟩
   by_cases hi:i<ys.length
   ·rw[List.getElem?_append_left hi] at hz
    exact h2 i z hz
   ·rw[List.getElem?_append_right (by omega)] at hz
    have hin:i=n:=by
     have:=(List.getElem?_eq_some_iff.1 hz).1
     simp at this
     omega
    subst hin
    rw[h1] at hz
    simp at hz
    subst hz
    exact hy
theorem vn {α:Type} (K:α->List Value->Prop) {H:Type} {enc:TypeId×Value->H} {P:Program} {w:World} {base:Nat} {held:Bool} {t e:TypeId} {sz fuel:Nat} {cs:List Value} {x:DataW H×List MemPlace}
  (ht:P.underlying t=some (.slice e)) (hsz:P.cellsOf e=sz) (hpos:0<sz)
  (ih:∀n,n<fuel->∀cs x,DataW.trod enc P w base (fun _=>true) held n e cs=some x->∃y:α,K y cs)
  (h:DataW.trod enc P w base (fun _=>true) held fuel t cs=some x) :
  ∃(A:Option Addr) (c:Nat) (ys:List α) (css:Nat->List Value),cs=[.slice A ys.length c]/\OkS w A ys.length c/\ys.length<=9223372036854775807 /\
   (∀a,A=some a->∀(i:Nat) (y:α),ys[i]? = some y->(css i).length=sz/\K y (css i)/\∀(j:Nat) (u:Value),(css i)[j]? = some u->w.cell? ⟨a.block,a.off+(i*sz+j),none⟩=some u):=by
 rcases DataW.trod_slice ht h with ⟨rfl,_⟩|⟨a,len,cap,elems,rest,n,hf,rfl,rfl,hb,hl,hm,hlen,hel,hsp,hns⟩
 ·exact ⟨none,0,[],fun _=>[],rfl,⟨lRf _,fun _=>⟨rfl,rfl⟩,fun a e=>by cases e⟩,by simp,fun a e=>by cases e⟩
 ·obtain ⟨hrl,hrest⟩:=hsp rfl
  have first:0<cap->a.spot=none/\a.block<w.heap.size:=by
   intro hc
   have zero:∀{y:DataW H×List MemPlace},(w.cells? base a (P.cellsOf e)).bind (DataW.trod enc P w base (fun _=>true) held n e)=some y->a.spot=none/\a.block<w.heap.size:=by
    intro y hy
    obtain ⟨c,h1,h2⟩:=Option.bind_eq_some_iff.1 hy
    obtain ⟨_,hcl,hcc⟩:=World.cells?_some h1
    have:=hcc 0 (by rw[hsz];exact hpos)
    have hc0:0<c.length:=by rw[hcl,hsz];exact hpos
    rw[gEl hc0] at this
    have ha:a.add 0=a:=rfl
    rw[ha] at this
    exact Bp this
   by_cases hl0:0<len
   ·have:=hel 0 hl0
    have hi':0<elems.length:=by omega
    rw[gEl hi',Nat.zero_mul] at this
    exact zero this
   ·have:=hrest 0 (by omega)
    have hi':0<rest.length:=by omega
    rw[gEl hi',show (len+0)*P.cellsOf e=0 by rw[show len=0 by omega];simp] at this
    exact zero this
  have each:∀i,i<len->∃yc:α×List Value,yc.2.length=sz/\K yc.1 yc.2/\∀(j:Nat) (u:Value),yc.2[j]? = some u->w.cell? ⟨a.block,a.off+(i*sz+j),none⟩=some u:=by
   intro i hi
   have hi':i<elems.length:=by omega
   have:=hel i hi
   rw[gEl hi',hsz] at this
   obtain ⟨c,h1,h2⟩:=Option.bind_eq_some_iff.1 this
   obtain ⟨y,hy⟩:=ih n (by omega) c _ h2
   obtain ⟨_,hcl,hc⟩:=World.cells?_some h1
   refine ⟨(y,c),hcl,hy,fun j u hj => ?_⟩
   have hlt:j<c.length:=(List.getElem?_eq_some_iff.1 hj).1
   have hs:=(first (by omega)).1
   have h3:=hc j (by omega)
   rw[sC hs,sC (a:=⟨a.block,a.off+i*sz,none⟩) rfl,hj] at h3
   rw[<-Nat.add_assoc]
   exact h3
  obtain ⟨ys,h1,h2⟩:=mA len each
  have hml:(ys.map (·.1)).length=len:=by rw[List.length_map,h1]
  refine ⟨some a,cap,ys.map (·.1),fun i=>match ys[i]? with
   | some y=>y.2
   | none=>[],by rw[hml],⟨by rw[hml];exact hl,fun e=>(by cases e),fun a' e hc=>by injection e with e;subst e;exact first hc⟩,?_,fun a' e i y hy => ?_⟩
  ·rw[hml];unfold maxLen at hm;omega
  ·injection e with e
   subst e
   rw[List.getElem?_map] at hy
   cases hyi:ys[i]? with
   | none=>rw[hyi] at hy;cases hy
   | some yc =>
     rw[hyi] at hy
     simp at hy
     subst hy
     simp only[hyi]
     exact h2 i yc hyi
theorem three {cs:List Value} {a b c:Value} (hl:cs.length=3) (h0:(cs.drop 0).take 1=[a]) (h1:(cs.drop 1).take 1=[b]) (h2:(cs.drop 2).take 1=[c]):cs=[a,b,c]:=by
 match cs,hl with
 | [x,y,z],_=>simp at h0 h1 h2;simp[h0,h1,h2]
theorem c9:Tryz.prog.cellsOf 9=1:=by kernel_rfl
theorem c50:Tryz.prog.cellsOf 46=1:=by kernel_rfl
theorem c52:Tryz.prog.cellsOf 48=3:=by kernel_rfl
theorem c54:Tryz.prog.cellsOf 50=4:=by kernel_rfl
theorem c22:Tryz.prog.cellsOf 22=1:=by kernel_rfl
theorem c24:Tryz.prog.cellsOf 24=1:=by kernel_rfl
def KPart (w:World) (y:ad) (cs:List Value):Prop:=∃(A:Option Addr) (c:Nat),cs=[.string y.d,.string y.t,.slice A y.l.length c]/\OkS w A y.l.length c/\(0<w.heap.size->RoPart (roW w) y [.string y.d,.string y.t,.slice (fy A c) y.l.length c])
theorem KPart.cells {w:World} {y:ad} {cs:List Value} (k:KPart w y cs) (hp:0<w.heap.size):RoPart (roW w) y (cs.map fe)/\∀u∈cs,VR (ls w) (fe u) u:=by
 obtain ⟨A,c,rfl,h1,h2⟩:=k
 refine ⟨by simp only[List.map_cons,List.map_nil,im];exact h2 hp,fun u hu => ?_⟩
 simp only[mCo,List.not_mem_nil,or_false] at hu
 rcases hu with rfl|rfl|rfl
 ·exact .string _
 ·exact .string _
 ·exact h1.vr hp
theorem sD {w:World} {b o:Nat} {cc:List Value} (hb:b<w.heap.size) (h:∀(j:Nat) (u:Value),cc[j]? = some u->w.cell? ⟨b,o+j,none⟩=some u) (hv:∀u∈cc,VR (ls w) (fe u) u):fS (roW w) b o (cc.map fe):=by
 refine ⟨hb,fun j v hj => ?_⟩
 rw[List.getElem?_map] at hj
 cases hc:cc[j]? with
 | none=>rw[hc] at hj;cases hj
 | some u =>
   rw[hc] at hj
   simp at hj
   subst hj
   exact yN (h j u hc) (hv u (mOg hc))
theorem wV {H:Type} {enc:TypeId×Value->H} {w:World} {base:Nat} {held:Bool}:∀(fuel:Nat) (cs:List Value) (x:DataW H×List MemPlace),
  DataW.trod enc Tryz.prog w base (fun _=>true) held fuel 48 cs=some x->∃y:ad,KPart w y cs:=by
 intro fuel
 induction fuel using Nat.strongRecOn with
 | _ fuel ih =>
   intro cs x h
   obtain ⟨xs,n,hf,rfl,hlen,hxl,hfs⟩:=DataW.trod_struct Tryz.underlying48 h
   rw[c52] at hlen
   match xs,hxl with
   | [y0,y1,y2],_ =>
     have g0:=hfs 0 { name := "Do",type:=9,offset:=0,embedded:=false,tag := "",pkgPath := "",byteOffset:=0 } rfl
     have g1:=hfs 1 { name := "Text",type:=9,offset:=1,embedded:=false,tag := "",pkgPath := "",byteOffset:=16 } rfl
     have g2:=hfs 2 { name := "Kids",type:=46,offset:=2,embedded:=false,tag := "",pkgPath := "",byteOffset:=32 } rfl
     simp only[c9,c50] at g0 g1 g2
     obtain ⟨s0,e0,_,_⟩:=DataW.trod_string Tryz.underlying9 g0
     obtain ⟨s1,e1,_,_⟩:=DataW.trod_string Tryz.underlying9 g1
     obtain ⟨A,c,ys,css,e2,hok,hmx,hcell⟩:=vn (KPart w) Tryz.underlying46 c52 (by decide) (fun m hm cs x hx=>ih m (by omega) cs x hx) g2
     have:=three hlen e0 e1 e2
     subst this
     refine ⟨⟨s0,s1,ys⟩,A,c,rfl,hok,fun hp => ?_⟩
     cases A with
     | none =>
       obtain ⟨h1,rfl⟩:=hok.nil rfl
       have h1:ys=[]:=List.length_eq_zero_iff.1 h1
       subst h1
       exact .mk s0 s1 [] none 0 0 0 (fun _=>[]) (lRf _) (by simp) (fun e=>absurd rfl e) (fun i p e=>by simp at e) (fun i p e=>by simp at e) rfl
     | some a =>
       refine .mk s0 s1 ys (fy (some a) c) c a.block a.off (fun i=>(css i).map fe) hok.le hmx (fun hne => ?_) (fun i p hi => ?_) (fun i p hi => ?_) hok.spotless
       ·have hpos:=List.length_pos_iff.2 hne
        have hc:¬c=0:=by have:=hok.le;omega
        have:=hok.at' a rfl (by omega)
        unfold fy
        simp only[if_neg hc]
        rw[<-kL this.1]
       ·obtain ⟨q1,q2,q3⟩:=hcell a rfl i p hi
        have hil:=(List.getElem?_eq_some_iff.1 hi).1
        have:=hok.at' a rfl (by have:=hok.le;omega)
        refine sD this.2 (fun j u hj => ?_) (q2.cells hp).2
        rw[Nat.add_assoc]
        exact q3 j u hj
       ·obtain ⟨q1,q2,q3⟩:=hcell a rfl i p hi
        exact (q2.cells hp).1
def Cf (w:World) (y:ar) (cs:List Value):Prop:=∃cs',cs=.string y.name::cs'/\KPart w y.body cs'
theorem wX {H:Type} {enc:TypeId×Value->H} {w:World} {base:Nat} {held:Bool} (fuel:Nat) (cs:List Value) (x:DataW H×List MemPlace)
  (h:DataW.trod enc Tryz.prog w base (fun _=>true) held fuel 50 cs=some x):∃y:ar,Cf w y cs:=by
 obtain ⟨xs,n,hf,rfl,hlen,hxl,hfs⟩:=DataW.trod_struct Tryz.underlying50 h
 rw[c54] at hlen
 match xs,hxl with
 | [y0,y1],_ =>
   have g0:=hfs 0 { name := "Name",type:=9,offset:=0,embedded:=false,tag := "",pkgPath := "",byteOffset:=0 } rfl
   have g1:=hfs 1 { name := "Body",type:=48,offset:=1,embedded:=false,tag := "",pkgPath := "",byteOffset:=16 } rfl
   simp only[c9,c52] at g0 g1
   obtain ⟨s0,e0,_,_⟩:=DataW.trod_string Tryz.underlying9 g0
   obtain ⟨y,hy⟩:=wV n _ _ g1
   refine ⟨⟨s0,y⟩,(cs.drop 1).take 3,?_,hy⟩
   match cs,hlen with
   | [a,b,d,e],_=>simp at e0;simp[e0]
theorem rm {H:Type} {enc:TypeId×Value->H} {w:World} {base:Nat} {held:Bool} (fuel:Nat) (cs:List Value) (x:DataW H×List MemPlace)
  (h:DataW.trod enc Tryz.prog w base (fun _=>true) held fuel 24 cs=some x):∃(A:Option Addr) (c:Nat) (g:List ar),cs=[.slice A g.length c]/\OkS w A g.length c/\∃b o css,Al (roW w) g (fy A c) c b o css:=by
 obtain ⟨xs,n,hf,rfl,hlen,hxl,hfs⟩:=DataW.trod_struct Tryz.underlying24 h
 rw[c24] at hlen
 match xs,hxl with
 | [y0],_ =>
   have g0:=hfs 0 { name := "Rules",type:=22,offset:=0,embedded:=false,tag := "",pkgPath := "",byteOffset:=0 } rfl
   simp only[c22] at g0
   obtain ⟨A,c,ys,css,e2,hok,hmx,hcell⟩:=vn (Cf w) Tryz.underlying22 c54 (by decide) (fun m hm cs x hx=>wX m cs x hx) g0
   refine ⟨A,c,ys,?_,hok,?_⟩
   ·match cs,hlen with
    | [a],_=>simpa using e2
   cases A with
   | none =>
     obtain ⟨h1,rfl⟩:=hok.nil rfl
     have h1:ys=[]:=List.length_eq_zero_iff.1 h1
     subst h1
     exact ⟨0,0,fun _=>[],lRf _,by simp,fun e=>absurd rfl e,fun i p e=>by simp at e,fun i p e=>by simp at e,rfl⟩
   | some a =>
     have inr:∀(i:Nat) (p:ar),ys[i]? = some p->a.spot=none/\a.block<w.heap.size:=by
      intro i p hi
      have hil:=(List.getElem?_eq_some_iff.1 hi).1
      exact hok.at' a rfl (by have:=hok.le;omega)
     refine ⟨a.block,a.off,fun i=>((css i).drop 1).map fe,hok.le,hmx,fun hne => ?_,fun i p hi => ?_,fun i p hi => ?_,hok.spotless⟩
     ·have hpos:=List.length_pos_iff.2 hne
      have hc:¬c=0:=by have:=hok.le;omega
      have:=hok.at' a rfl (by omega)
      unfold fy
      simp only[if_neg hc]
      rw[<-kL this.1]
     ·obtain ⟨q1,⟨cs',q2,q3⟩,q4⟩:=hcell a rfl i p hi
      have hin:=(inr i p hi).2
      have hp:0<w.heap.size:=by omega
      have:=sD (cc:=css i) (b:=a.block) (o:=a.off+i*4) hin (fun j u hj=>by rw[Nat.add_assoc];exact q4 j u hj) (fun u hu=>by
       rw[q2] at hu
       rcases mCo.1 hu with rfl|hu
       ·exact .string _
       ·exact (q3.cells hp).2 u hu)
      rw[q2] at this ⊢
      exact this
     ·obtain ⟨q1,⟨cs',q2,q3⟩,q4⟩:=hcell a rfl i p hi
      have hp:0<w.heap.size:=by have:=(inr i p hi).2;omega
      rw[q2]
      exact (q3.cells hp).1
theorem yO {w:World} {base:Nat} {e t:TypeId} {a:Addr} {n c:Nat} (ht:Tryz.prog.underlying t=some (.slice e)) (h:Cell.okWide Tryz.prog w .any base t (.slice (some a) n c)):0<w.heap.size:=by
 simp only[Cell.okWide,ht,Cell.ok] at h
 obtain ⟨_,_,_,_,row,cells,hs,_⟩:=h
 unfold World.shape? at hs
 split at hs
 ·rename_i cc el fr hc
  rcases Nat.lt_or_ge a.block w.heap.size with q|q
  ·omega
  ·rw[Array.getElem?_eq_none q] at hc;cases hc
 ·cases hs
theorem Ez:Tryz.prog.cellTypes Tryz.prog.depth 24=some [22]:=by kernel_rfl
theorem yP {w:World} {base:Nat} {a:Addr} {n c:Nat} (h:Value.okWide Tryz.prog w .any base 24 (.agg #[.slice (some a) n c])):0<w.heap.size:=by
 simp only[Value.okWide,Tryz.underlying24] at h
 obtain ⟨cs,e,_,ts,hts,_,hcell⟩:=h
 injection e with e
 subst e
 rw[Ez] at hts
 injection hts with hts
 subst hts
 obtain ⟨u,hu,hk⟩:=hcell 0 (.slice (some a) n c) rfl
 simp at hu
 subst hu
 exact yO Tryz.underlying22 hk
theorem CW {w:World} {A:Option Addr} {n c:Nat} (k:OkS w A n c) (hp:∀a,A=some a->0<w.heap.size):VR (ls w) (.slice (fy A c) n c) (.slice A n c):=by
 cases A with
 | none =>
   obtain ⟨rfl,rfl⟩:=k.nil rfl
   exact .slNil
 | some a =>
   rw[<-im]
   exact k.vr (hp a rfl)
end
end Go.Ev.Z24
end
section
namespace Go.Ev.Z24
open Go.RowKit Go.Proofs
theorem wY:aA Tryz.prog 3=some 1:=by kernel_rfl
theorem DA:aA Tryz.prog 4=some 1:=by kernel_rfl
theorem eJ:aA Tryz.prog 34=some 1:=by kernel_rfl
theorem yR:aA Tryz.prog 46=some 1:=by kernel_rfl
theorem vo:aA Tryz.prog 48=some 3:=by kernel_rfl
theorem yS:aA Tryz.prog 60=some 1:=by kernel_rfl
theorem Cg:aA Tryz.prog 63=some 1:=by kernel_rfl
theorem Ch:aA Tryz.prog 67=some 1:=by kernel_rfl
theorem Ci:aA Tryz.prog 68=some 1:=by kernel_rfl
theorem Cj:aA Tryz.prog 69=some 1:=by kernel_rfl
theorem yT:aA Tryz.prog 70=some 1:=by kernel_rfl
theorem pN:aA Tryz.prog 71=some 1:=by kernel_rfl
theorem yU:aA Tryz.prog 115=some 2:=by kernel_rfl
@[go_sem] theorem yz3 : bE Tryz.prog 3 = some (.int .i64 0) := by kernel_rfl
@[go_sem] theorem oy : bE Tryz.prog 34 = some (.slice none 0 0) := by kernel_rfl
theorem DB:bE Tryz.prog 48=some (.agg #[.string ⟨#[]⟩,.string ⟨#[]⟩,.slice none 0 0]):=by kernel_rfl
@[go_sem] theorem EA : bE Tryz.prog 60 = some (.slice none 0 0) := by kernel_rfl
@[go_sem] theorem DC : bE Tryz.prog 71 = some (.slice none 0 0) := by kernel_rfl
@[go_sem] theorem EB : bE Tryz.prog 73 = some (.agg #[.pointer none, .slice none 0 0, .slice none 0 0, .slice none 0 0, .map none, .map none, .bool false, .map none]) := by kernel_rfl
@[go_sem] theorem DD : bE Tryz.prog 115 = some (.agg #[.int .i64 0, .int .i64 0]) := by kernel_rfl
@[go_sem] theorem Fb (h : Hp) (a : Addr) : aV Tryz.prog h 60 a = h.load a := bQ Tryz.underlying60 rfl h a
@[go_sem] theorem Fc (h : Hp) (a : Addr) : aV Tryz.prog h 67 a = h.load a := bQ Tryz.underlying67 rfl h a
@[go_sem] theorem Fe (h : Hp) (a : Addr) : aV Tryz.prog h 68 a = h.load a := bQ Tryz.underlying68 rfl h a
@[go_sem] theorem Ff (h : Hp) (a : Addr) : aV Tryz.prog h 69 a = h.load a := bQ Tryz.underlying69 rfl h a
@[go_sem] theorem Fg (h : Hp) (a : Addr) : aV Tryz.prog h 70 a = h.load a := bQ Tryz.underlying70 rfl h a
@[go_sem] theorem Fh (h : Hp) (a : Addr) : aV Tryz.prog h 71 a = h.load a := bQ Tryz.underlying71 rfl h a
@[go_sem] theorem Fi (h : Hp) (a : Addr) (v : Value) : bc Tryz.prog h 34 a v = match Nat.beq v.cells.toList.length 1 with | true => h.stores a v.cells.toList | false => none := bH eJ h a v
@[go_sem] theorem Fj (h : Hp) (a : Addr) (v : Value) : bc Tryz.prog h 46 a v = match Nat.beq v.cells.toList.length 1 with | true => h.stores a v.cells.toList | false => none := bH yR h a v
@[go_sem] theorem Fk (h : Hp) (a : Addr) (v : Value) : bc Tryz.prog h 60 a v = match Nat.beq v.cells.toList.length 1 with | true => h.stores a v.cells.toList | false => none := bH yS h a v
@[go_sem] theorem Fl (h : Hp) (a : Addr) (v : Value) : bc Tryz.prog h 70 a v = match Nat.beq v.cells.toList.length 1 with | true => h.stores a v.cells.toList | false => none := bH yT h a v
@[go_sem] theorem Fm (h : Hp) (a : Addr) (v : Value) : bc Tryz.prog h 71 a v = match Nat.beq v.cells.toList.length 1 with | true => h.stores a v.cells.toList | false => none := bH pN h a v
@[go_sem] theorem EC (h : Hp) (a : Addr) (v : Value) : bc Tryz.prog h 115 a v = match Nat.beq v.cells.toList.length 2 with | true => h.stores a v.cells.toList | false => none := bH yU h a v
@[go_sem] theorem Ef (b o : Nat) : aI Tryz.prog 73 (.pointer (some ⟨b, o, none⟩)) 0 = some (.pointer (some ⟨b, o, none⟩)) := aM 63 0 Tryz.underlying73 rfl Cg b o
@[go_sem] theorem Eg (b o : Nat) : aI Tryz.prog 73 (.pointer (some ⟨b, o, none⟩)) 1 = some (.pointer (some ⟨b, o + 1, none⟩)) := aM 46 1 Tryz.underlying73 rfl yR b o
@[go_sem] theorem Eh (b o : Nat) : aI Tryz.prog 73 (.pointer (some ⟨b, o, none⟩)) 2 = some (.pointer (some ⟨b, o + 2, none⟩)) := aM 70 2 Tryz.underlying73 rfl yT b o
@[go_sem] theorem Ei (b o : Nat) : aI Tryz.prog 73 (.pointer (some ⟨b, o, none⟩)) 3 = some (.pointer (some ⟨b, o + 3, none⟩)) := aM 71 3 Tryz.underlying73 rfl pN b o
@[go_sem] theorem Ej (b o : Nat) : aI Tryz.prog 73 (.pointer (some ⟨b, o, none⟩)) 4 = some (.pointer (some ⟨b, o + 4, none⟩)) := aM 67 4 Tryz.underlying73 rfl Ch b o
@[go_sem] theorem Ek (b o : Nat) : aI Tryz.prog 73 (.pointer (some ⟨b, o, none⟩)) 5 = some (.pointer (some ⟨b, o + 5, none⟩)) := aM 68 5 Tryz.underlying73 rfl Ci b o
@[go_sem] theorem El (b o : Nat) : aI Tryz.prog 73 (.pointer (some ⟨b, o, none⟩)) 6 = some (.pointer (some ⟨b, o + 6, none⟩)) := aM 4 6 Tryz.underlying73 rfl DA b o
@[go_sem] theorem Em (b o : Nat) : aI Tryz.prog 73 (.pointer (some ⟨b, o, none⟩)) 7 = some (.pointer (some ⟨b, o + 7, none⟩)) := aM 69 7 Tryz.underlying73 rfl Cj b o
@[go_sem] theorem jO {b o n c i : Nat} (hi : i < n) : ap Tryz.prog 27 (.slice (some ⟨b, o, none⟩) n c) (.int .i64 (i : Int)) = some (.pointer (some ⟨b, o + i, none⟩)) := by rw[cA Tryz.underlying27 eJ hi, Nat.mul_one]
theorem oz {b o n c i:Nat} (hi:i<n):ap Tryz.prog 46 (.slice (some ⟨b,o,none⟩) n c) (.int .i64 (i:Int))=some (.pointer (some ⟨b,o+i*3,none⟩)):=cA Tryz.underlying46 vo hi
@[go_sem] theorem vp {b o n c i : Nat} (hi : i < n) : ap Tryz.prog 59 (.slice (some ⟨b, o, none⟩) n c) (.int .i64 (i : Int)) = some (.pointer (some ⟨b, o + i, none⟩)) := by rw[cA Tryz.underlying59 yS hi, Nat.mul_one]
@[go_sem] theorem kN {b o n c i : Nat} (hi : i < n) : ap Tryz.prog 60 (.slice (some ⟨b, o, none⟩) n c) (.int .i64 (i : Int)) = some (.pointer (some ⟨b, o + i, none⟩)) := by rw[cA Tryz.underlying60 eJ hi, Nat.mul_one]
@[go_sem] theorem pO {b o n c i : Nat} (hi : i < n) : ap Tryz.prog 70 (.slice (some ⟨b, o, none⟩) n c) (.int .i64 (i : Int)) = some (.pointer (some ⟨b, o + i, none⟩)) := by rw[cA Tryz.underlying70 pN hi, Nat.mul_one]
@[go_sem] theorem mB {b o n c i : Nat} (hi : i < n) : ap Tryz.prog 71 (.slice (some ⟨b, o, none⟩) n c) (.int .i64 (i : Int)) = some (.pointer (some ⟨b, o + i, none⟩)) := by rw[cA Tryz.underlying71 wY hi, Nat.mul_one]
@[go_sem] theorem ED (h : Hp) (b : Option Addr) (n c : Nat) (r : List TypeId) : iE Tryz.prog h (27 :: r) [.slice b n c] = some (.int .i64 n) := dA Tryz.underlying27 h b n c r
@[go_sem] theorem EE (h : Hp) (b : Option Addr) (n c : Nat) (r : List TypeId) : iE Tryz.prog h (59 :: r) [.slice b n c] = some (.int .i64 n) := dA Tryz.underlying59 h b n c r
@[go_sem] theorem EF (h : Hp) (b : Option Addr) (n c : Nat) (r : List TypeId) : iE Tryz.prog h (60 :: r) [.slice b n c] = some (.int .i64 n) := dA Tryz.underlying60 h b n c r
@[go_sem] theorem EG (h : Hp) (b : Option Addr) (n c : Nat) (r : List TypeId) : iE Tryz.prog h (71 :: r) [.slice b n c] = some (.int .i64 n) := dA Tryz.underlying71 h b n c r
@[go_sem] theorem Fo (ps : List (Nat × Value)) : d3 Tryz.prog 73 ps = match cM (fun i => ([(0, 1), (1, 1), (2, 1), (3, 1), (4, 1), (5, 1), (6, 1), (7, 1)] : List (Nat × Nat))[i]?) [.pointer none, .slice none 0 0, .slice none 0 0, .slice none 0 0, .map none, .map none, .bool false, .map none] ps with | some c => some (.agg c.toArray) | none => none := fj EB Tryz.underlying73 (by kernel_rfl) (fun i => by
 match i with
 | 0=>exact by simp only[bg,gC0,gC1,Cg]
 | 1=>exact by simp only[bg,gC0,gC1,yR]
 | 2=>exact by simp only[bg,gC0,gC1,yT]
 | 3=>exact by simp only[bg,gC0,gC1,pN]
 | 4=>exact by simp only[bg,gC0,gC1,Ch]
 | 5=>exact by simp only[bg,gC0,gC1,Ci]
 | 6=>exact by simp only[bg,gC0,gC1,DA]
 | 7=>exact by simp only[bg,gC0,gC1,Cj]
 | _+8=>rfl) ps
@[go_sem] theorem Fp (n : Nat) (hn : n <= 1000) (ps : List (Nat × Value)) : aY Tryz.prog 27 n ps = match cM (fun i => some (i * 1, 1)) (aC [.slice none 0 0] n) ps with | some c => some (.cells ⟨c, 34, 0, 0, false⟩, fun b => .slice (some ⟨b, 0, none⟩) n n) | none => none := cV Tryz.underlying27 eJ oy rfl (by decide) (by omega) ps
@[go_sem] theorem DE (n : Nat) (hn : n <= 1000) (ps : List (Nat × Value)) : aY Tryz.prog 46 n ps = match cM (fun i => some (i * 3, 3)) (aC [.string ⟨#[]⟩, .string ⟨#[]⟩, .slice none 0 0] n) ps with | some c => some (.cells ⟨c, 48, 0, 0, false⟩, fun b => .slice (some ⟨b, 0, none⟩) n n) | none => none := cV Tryz.underlying46 vo DB rfl (by decide) (by omega) ps
@[go_sem] theorem oA (n : Nat) (hn : n <= 1000) (ps : List (Nat × Value)) : aY Tryz.prog 60 n ps = match cM (fun i => some (i * 1, 1)) (aC [.slice none 0 0] n) ps with | some c => some (.cells ⟨c, 34, 0, 0, false⟩, fun b => .slice (some ⟨b, 0, none⟩) n n) | none => none := cV Tryz.underlying60 eJ oy rfl (by decide) (by omega) ps
@[go_sem] theorem DF (n : Nat) (hn : n <= 1000) (ps : List (Nat × Value)) : aY Tryz.prog 70 n ps = match cM (fun i => some (i * 1, 1)) (aC [.slice none 0 0] n) ps with | some c => some (.cells ⟨c, 71, 0, 0, false⟩, fun b => .slice (some ⟨b, 0, none⟩) n n) | none => none := cV Tryz.underlying70 pN DC rfl (by decide) (by omega) ps
@[go_sem] theorem yV (n : Nat) (hn : n <= 1000) (ps : List (Nat × Value)) : aY Tryz.prog 71 n ps = match cM (fun i => some (i * 1, 1)) (aC [.int .i64 0] n) ps with | some c => some (.cells ⟨c, 3, 0, 0, false⟩, fun b => .slice (some ⟨b, 0, none⟩) n n) | none => none := cV Tryz.underlying71 wY yz3 rfl (by decide) (by omega) ps
@[go_sem] theorem DG (l c : Nat) (hl : l <= c) (hc : c <= 1000) : fh Tryz.prog 59 (.int .i64 (l : Int)) (.int .i64 (c : Int)) = some (.cells ⟨aC [.slice none 0 0] c, 60, 0, 0, false⟩, fun b => .slice (some ⟨b, 0, none⟩) l c) := j7 Tryz.underlying59 yS EA rfl (by decide) (by kernel_rfl) hl (by omega)
section
variable {h h1 h2:Hp} {e:TypeId}
def OwnZ (e:TypeId) (h:Hp) (n0 f0:Nat) (cs:List Value) (v:Value):Prop:=(cs=[]/\v=.slice none 0 0) \/
 ∃b f,v=.slice (some ⟨b,0,none⟩) cs.length cs.length/\bX e h b cs f/\n0<=b/\(f≠0->f0<=f)
theorem OwnZ.ext (x:Ext h h1) {n0 f0:Nat} {cs:List Value} {v:Value} (k:OwnZ e h n0 f0 cs v):OwnZ e h1 n0 f0 cs v:=by
 rcases k with k|⟨b,f,e1,hr,k⟩
 ·exact .inl k
 ·exact .inr ⟨b,f,e1,bR (x.toS (S:=fun _=>False)) hr (fun c=>c),k⟩
theorem OwnZ.lower {n0 f0 n1 f1:Nat} {cs:List Value} {v:Value} (k:OwnZ e h n0 f0 cs v) (h1:n1<=n0) (h2:f1<=f0):OwnZ e h n1 f1 cs v:=by
 rcases k with k|⟨b,f,e1,hr,hb,hf⟩
 ·exact .inl k
 ·exact .inr ⟨b,f,e1,hr,lTr h1 hb,fun c=>lTr h2 (hf c)⟩
theorem OwnZ.len {n0 f0:Nat} {cs:List Value} {v:Value} (k:OwnZ e h n0 f0 cs v):∃A,v=.slice A cs.length cs.length/\spotless A=true:=by
 rcases k with ⟨rfl,rfl⟩|⟨b,f,rfl,hr,hb,hf⟩
 ·exact ⟨none,rfl,rfl⟩
 ·exact ⟨_,rfl,rfl⟩
theorem OwnZ.same {n0 f0:Nat} {cs:List Value} {v:Value} (k:OwnZ e h n0 f0 cs v) (j:Nat):aB j v v=true:=by
 obtain ⟨A,rfl,hA⟩:=k.len
 exact ab hA _ _ _
theorem OwnZ.cell {n0 f0:Nat} {cs:List Value} {v:Value} (k:OwnZ e h n0 f0 cs v):[v].all oneCell=true:=by
 rcases k with ⟨_,rfl⟩|⟨b,f,rfl,hr,hb,hf⟩<;>rfl
theorem OwnZ.src {n0 f0:Nat} {cs:List Value} {v:Value} (k:OwnZ e h n0 f0 cs v):l6 h v cs:=by
 rcases k with ⟨rfl,rfl⟩|⟨b,f,rfl,hr,hb0,hf⟩
 ·exact ⟨rfl,rfl⟩
 ·refine ⟨rfl,?_⟩
  simp only[bS,cB hr,List.drop_zero,Nat.mul_one]
  exact dB _
theorem io {t:TypeId} {z x:Value} (hu:Tryz.prog.underlying t=some (.slice e)) (hs:aA Tryz.prog e=some 1) (hz:bE Tryz.prog e=some z) (hzl:Nat.beq z.cells.toList.length 1=true/\0<1)
  (hby:(match Tryz.prog.info? e with|some i=>Nat.ble i.bytes 100000&&Nat.blt 0 i.bytes|none=>false)=true) (hni:noInt Tryz.prog [t]=true) {ds:List Value} (hx1:ds.all oneCell=true)
  {n0 f0:Nat} {cs:List Value} {v:Value} (k:OwnZ e h n0 f0 cs v) (hw:l6 h x ds) (hb:h.base<=h.next) (hn0:n0<=h.next) (hf0:f0<=h.nfam) (hsz:cs.length+ds.length<=1000000) :
  ∃v' h',bt Tryz.prog h [t,t] [v,x]=some (v',h')/\OwnZ e h' n0 f0 (cs++ds) v'/\pm e h n0 f0 h'/\tG h h':=by
 obtain ⟨hln,hf1⟩:=hw
 by_cases hd:ds=[]
 ·subst hd
  refine ⟨v,h,?_,by rw[List.append_nil];exact k,⟨fun S h0 q _ _=>q,fun b' e' c' _ o=>o,lRf _⟩,rfl,lRf _,fun _ _ _ q _=>q⟩
  obtain ⟨A,rfl,_⟩:=k.len
  rw[cQ hu hs hz hzl hby h (len:=cs.length) (cap:=cs.length) (n:=0) hln hf1 (by simpa using hsz) (lRf _) (by simp) rfl hni]
  have:Nat.ble (cs.length+0) cs.length=true:=by simp
  unfold apd
  rw[this]
  cases A with
  | none=>rfl
  | some a=>simp only[Hp.stores];rfl
 have hdl:0<ds.length:=List.length_pos_iff.2 hd
 rcases k with ⟨rfl,rfl⟩|⟨b,f,rfl,hr,hb0,hf⟩
 ·have hx:=Ext.new h (ak.cells { c:=ds,e:=e,fam:=0,base:=0,grown:=true })
  refine ⟨.slice (some ⟨h.next,0,none⟩) ds.length ds.length,h.newH (ak.cells { c:=ds,e:=e,fam:=0,base:=0,grown:=true }),?_,?_,⟨fun S h0 q _ _=>q.trans hx.toS,fun b' e' c' _ o=>aj hx o,hx.next⟩,hx.base,hx.nfam,fun b' o hl q _=>by rw[hx.objs b' hl];exact q⟩
  ·rw[cQ hu hs hz hzl hby h (len:=0) (cap:=0) (n:=ds.length) hln hf1 (by simpa using hsz) (lRf _) hx1 (by omega) hni]
   have:Nat.ble (0+ds.length) 0=false:=dX (by omega)
   simp only[apd,this,Hp.grownRow,lG]
  ·refine .inr ⟨h.next,0,by simp,⟨hb,lSs _,⟨0,true,?_⟩,fun e=>absurd rfl e⟩,hn0,fun e=>absurd rfl e⟩
   simp only[Hp.row,cW,if_true,List.nil_append]
 ·obtain ⟨bs,g,hrow⟩:=hr.row
  have hld:h.loads ⟨b,0,none⟩ (cs.length*1)=some cs:=by
   rw[cB hr,List.drop_zero,Nat.mul_one]
   exact dB _
  have hc:Nat.ble (cs.length+ds.length) cs.length=false:=dX (by omega)
  have hbeq:Nat.beq e e=true:=by simp
  have happ:bt Tryz.prog h [t,t] [.slice (some ⟨b,0,none⟩) cs.length cs.length,x]=apd h e 1 (some ⟨b,0,none⟩) cs.length cs.length ds.length ds :=
   cQ hu hs hz hzl hby h hln hf1 (by omega) (lRf _) hx1 (by omega) hni
  have fin:∀(f':Nat) (h':Hp),apd h e 1 (some ⟨b,0,none⟩) cs.length cs.length ds.length ds=some (.slice (some ⟨h.next,0,none⟩) (cs.length+ds.length) (cs.length+ds.length),h')->bX e h' h.next (cs++ds) f'->(f'=f/\f≠0\/f'=h.nfam)->h'.base=h.base->h'.ro=h.ro->h'.next=h.next+1->h.nfam<=h'.nfam->(∀y,y<h.next->y≠b->h'.objs.get y=h.objs.get y)->(∀q,q<h.nfam->¬(q=f/\f≠0)->h'.fams.get q=h.fams.get q) ->
    ∃v' h',bt Tryz.prog h [t,t] [.slice (some ⟨b,0,none⟩) cs.length cs.length,x]=some (v',h')/\OwnZ e h' n0 f0 (cs++ds) v'/\pm e h n0 f0 h'/\tG h h':=by
   intro f' h' a1 a2 a3 e1 e2 e3 e4 e5 e6
   have hf':f'≠0->f0<=f':=by
    intro c
    rcases a3 with ⟨rfl,q⟩|rfl
    ·exact hf q
    ·exact hf0
   refine ⟨_,h',by rw[happ,a1],.inr ⟨h.next,f',by simp,a2,hn0,hf'⟩,⟨fun S h0 q q1 q2=>qC q (lTr q1 hb0) (fun c=>lTr q2 (hf c)) e1 e2 e3 e4 e5 e6,fun b' e' c' hne o => ?_,by omega⟩,e1,e4,fun b' o hl q hno => ?_⟩
   ·have hbb:=lw hr o hne
    exact ⟨by rw[e1];exact o.1,by have:=o.2.1;omega,by rw[e5 b' o.2.1 hbb];exact o.2.2⟩
   ·rw[e5 b' hl (fun c => ?_)]
    ·exact q
    ·obtain ⟨row,o1,_⟩:=je hr
     rw[<-c,q] at o1
     injection o1 with o1
     exact hno _ o1
  cases hfe:f with
  | zero =>
    subst hfe
    refine fin h.nfam { h with
     objs:=(h.objs.put b (.cells ⟨cs,e,h.nfam,bs,g⟩)).put h.next (.cells ⟨cs++ds,e,h.nfam,bs+0,true⟩)
     next:=h.next+1
     fams:=h.fams.put h.nfam (⟨h.next,bs+0,bs+0+(cs++ds).length⟩::ma b bs (bs+cs.length) (bs+0+cs.length*1))
     nfam:=h.nfam+1 } ?_ ?_ (.inr rfl) rfl rfl rfl (Nat.le_succ _) ?_ ?_
    ·simp only[apd,hc,hrow,hld,gH,hbeq]
    ·refine ⟨by have:=hr.lo;have:=hr.lt;show h.base<=h.next;omega,lSs _,⟨bs+0,true,?_⟩,fun _=>lSs _⟩
     simp only[Hp.row,Tr.get_put,if_true]
     cases hnf:h.nfam with
     | zero=>rfl
     | succ q=>simp only[Tr.get_put,if_true,List.any_cons,dW,Bool.true_or]
    ·intro x hx hxb
     simp only[Tr.get_put,if_neg (Nat.ne_of_lt hx),if_neg hxb]
    ·intro q hq _
     simp only[Tr.get_put,if_neg (Nat.ne_of_lt hq)]
  | succ q0 =>
    subst hfe
    have hfm:∃l,h.fams.get (q0+1)=some l:=by
     have hrow2:=hrow
     unfold Hp.row at hrow2
     split at hrow2
     ·rename_i r hg
      split at hrow2
      ·rename_i e0
       injection hrow2 with hrow2
       rw[hrow2] at e0
       cases e0
      ·rename_i f0' e0
       split at hrow2
       ·rename_i l hl0
        split at hrow2
        ·injection hrow2 with hrow2
         rw[hrow2] at e0
         have e1:q0+1=f0'+1:=e0
         exact ⟨l,by rw[e1];exact hl0⟩
        ·cases hrow2
       ·cases hrow2
     ·cases hrow2
    obtain ⟨l,hl0⟩:=hfm
    refine fin (q0+1) { h with
     objs:=h.objs.put h.next (.cells ⟨cs++ds,e,q0+1,bs+0,true⟩)
     next:=h.next+1
     fams:=h.fams.put (q0+1) (⟨h.next,bs+0,bs+0+(cs++ds).length⟩::l.filter fun m=>Nat.ble m.hi (bs+0+cs.length*1)) } ?_ ?_ (.inl ⟨rfl,by omega⟩) rfl rfl rfl (lRf _) ?_ ?_
    ·simp only[apd,hc,hrow,hld,gH,hbeq,hl0]
    ·refine ⟨by have:=hr.lo;have:=hr.lt;show h.base<=h.next;omega,lSs _,⟨bs+0,true,?_⟩,fun e=>hr.fl e⟩
     simp only[Hp.row,Tr.get_put,if_true,List.any_cons,dW,Bool.true_or]
    ·intro x hx _
     simp only[Tr.get_put,if_neg (Nat.ne_of_lt hx)]
    ·intro q hq hqf
     have:¬q=q0+1:=fun e=>hqf ⟨e,by omega⟩
     simp only[Tr.get_put,if_neg this]
def TxV (h:Hp) (v:Value) (ss:List ByteArray):Prop:=OwnZ 9 h 0 0 (dw ss) v
def TxVs (h:Hp):List Value->List (List ByteArray)->Prop
 | [],[]=>True
 | v::vs,ss::l=>TxV h v ss/\TxVs h vs l
 | _,_=>False
def LLV (h:Hp) (v:Value) (l:List (List ByteArray)):Prop:=∃vs,OwnZ 34 h 0 0 vs v/\TxVs h vs l
theorem TxVs.ext (x:Ext h h1):∀{vs:List Value} {l:List (List ByteArray)},TxVs h vs l->TxVs h1 vs l
 | [],[],_=>trivial
 | v::vs,ss::l,k=>⟨OwnZ.ext x k.1,TxVs.ext x k.2⟩
theorem LLV.ext (x:Ext h h1) {v:Value} {l:List (List ByteArray)} (k:LLV h v l):LLV h1 v l:=k.elim fun vs q=>⟨vs,q.1.ext x,q.2.ext x⟩
theorem TxVs.len:∀{vs:List Value} {l:List (List ByteArray)},TxVs h vs l->vs.length=l.length
 | [],[],_=>rfl
 | v::vs,ss::l,k=>by rw[List.length_cons,List.length_cons,TxVs.len k.2]
theorem TxVs.get:∀{vs:List Value} {l:List (List ByteArray)},TxVs h vs l->∀(i:Nat) (ss:List ByteArray),l[i]? = some ss->∃v,vs[i]? = some v/\TxV h v ss
 | [],[],_,i,s,e=>by simp at e
 | [],_::_,k,_,_,_=>k.elim
 | v::vs,ss::l,k,0,s,e=>by
   simp at e
   subst e
   exact ⟨v,rfl,k.1⟩
 | v::vs,ss::l,k,i+1,s,e=>by
   obtain ⟨u,q1,q2⟩:=TxVs.get k.2 i s (by simpa using e)
   exact ⟨u,by simpa using q1,q2⟩
theorem TxVs.app:∀{vs us:List Value} {l m:List (List ByteArray)},TxVs h vs l->TxVs h us m->TxVs h (vs++us) (l++m)
 | [],us,[],m,_,k=>k
 | v::vs,us,ss::l,m,k,k2=>⟨k.1,TxVs.app k.2 k2⟩
theorem TxVs.take:∀{vs:List Value} {l:List (List ByteArray)} (i:Nat),TxVs h vs l->TxVs h (vs.take i) (l.take i)
 | _,_,0,_=>by simp[TxVs]
 | [],[],i+1,_=>trivial
 | v::vs,ss::l,i+1,k=>⟨k.1,TxVs.take i k.2⟩
theorem TxVs.drop:∀{vs:List Value} {l:List (List ByteArray)} (i:Nat),TxVs h vs l->TxVs h (vs.drop i) (l.drop i)
 | vs,l,0,k=>k
 | [],[],i+1,_=>trivial
 | v::vs,ss::l,i+1,k=>TxVs.drop i k.2
theorem TxVs.one {v:Value} {ss:List ByteArray} (k:TxV h v ss):TxVs h [v] [ss]:=⟨k,trivial⟩
theorem TxVs.cells:∀{vs:List Value} {l:List (List ByteArray)},TxVs h vs l->vs.all oneCell=true
 | [],[],_=>rfl
 | v::vs,ss::l,k=>by
   have h1:=k.1.cell
   have h2:=TxVs.cells k.2
   simp only[List.all_cons,List.all_nil,Bool.and_true] at h1
   rw[List.all_cons,h1,h2]
   rfl
theorem LLV.nil:LLV h (.slice none 0 0) []:=⟨[],.inl ⟨rfl,rfl⟩,trivial⟩
theorem OwnZ.strsAt {n0 f0:Nat} {ss:List ByteArray} {v:Value} (k:OwnZ 9 h n0 f0 (dw ss) v):StrsAt h v ss:=by
 rcases k with ⟨e,rfl⟩|⟨b,f,rfl,hr,hb0,hf⟩
 ·have:ss=[]:=List.map_eq_nil_iff.1 e
  subst this
  exact ⟨none,0,rfl,rfl,fun c=>absurd rfl c⟩
 ·refine ⟨some ⟨b,0,none⟩,(dw ss).length,by rw[cp],rfl,fun _=>⟨b,0,rfl,fun i s hi => ?_⟩⟩
  rw[bV hr,Nat.zero_add]
  unfold dw
  rw[List.getElem?_map,hi]
  rfl
def EH (h:Hp) (v:Value) (l:List (List ByteArray)):Prop:=∃A,v=.slice A l.length l.length/\spotless A=true/\(l≠[]->∃b,A=some ⟨b,0,none⟩/\∀(i:Nat) (ss:List ByteArray),l[i]? = some ss->∃u,h.load ⟨b,i,none⟩=some u/\TxV h u ss)
theorem LLV.at' {v:Value} {l:List (List ByteArray)} (k:LLV h v l):EH h v l:=by
 obtain ⟨vs,k,q⟩:=k
 have hl:=q.len
 rcases k with ⟨rfl,rfl⟩|⟨b,f,rfl,hr,hb0,hf⟩
 ·have:l=[]:=List.length_eq_zero_iff.1 (by rw[<-hl];rfl)
  subst this
  exact ⟨none,rfl,rfl,fun c=>absurd rfl c⟩
 ·refine ⟨some ⟨b,0,none⟩,by rw[hl],rfl,fun _=>⟨b,rfl,fun i ss e => ?_⟩⟩
  obtain ⟨u,q1,q2⟩:=q.get i ss e
  exact ⟨u,by rw[bV hr,q1],q2⟩
end
def d4:List ByteArray->List ByteArray->Bool
 | x::a,y::b=>if x.data.toList=y.data.toList then d4 a b else ltB x y
 | _,_=>false
def bW (a b:List ByteArray):Bool:=if a.length=b.length then d4 a b else decide (a.length<b.length)
theorem uv {a b:List ByteArray} {v u:Value} (h:Hp) (ha:StrsAt h v a) (hb:StrsAt h u b) (hl:a.length<=1000000):Snd Tryz.prog 64 [v,u] h (.bool (bW a b)) h:=by
 suffices ∃w h1,Snd Tryz.prog 64 [v,u] h w h1/\w=.bool (bW a b)/\h1=h by
  obtain ⟨_,_,hs,rfl,rfl⟩:=this
  exact hs
 obtain ⟨A,c,rfl,hsA,hA⟩:=ha
 obtain ⟨B,d,rfl,hsB,hB⟩:=hb
 refine aL wf Tryz.func64 rfl rfl (n:=40) rfl (by kernel_rfl) rfl ?_
 intro ac hn hg
 have hr:Tryz.f64.results.toList=[.tmp 4]:=rfl
 have g0:=hg 0
 have g1:=hg 1
 clear hg
 simp only[gC0,gC1] at g0 g1
 by_cases hlen:a.length=b.length
 rotate_left
 ·have k1:decide ((a.length:Int)=(b.length:Int))=false:=dcF (by omega)
  have e:bW a b=decide ((a.length:Int)<(b.length:Int)):=by
   unfold bW
   rw[if_neg hlen]
   exact decide_eq_decide.2 (by omega)
  simp -dsimp only[go_sem,g0,g1,k1,hr,e,Bool.not_false]
 have k1:decide ((a.length:Int)=(b.length:Int))=true:=dcT (by omega)
 have el:bW a b=d4 a b:=by unfold bW;rw[if_pos hlen]
 rw[el]
 simp -dsimp only[go_sem,g0,g1,k1,Bool.not_true]
 refine au (n:=40) (by kernel_rfl) (fun m' a' h'=>∃i:Nat,i<=a.length/\m'=a.length - i/\h'=h/\d4 a b=d4 (a.drop i) (b.drop i) /\
  a'.get 0=.slice A a.length c/\a'.get 1=.slice B b.length d/\a'.get 5=.int .i64 (i:Int)) ?_ a.length _ _ (by simp -dsimp only[go_sem,hn]) ⟨0,lZr _,rfl,rfl,rfl,by simp -dsimp only[go_sem,g0],by simp -dsimp only[go_sem,g1],by simp -dsimp only[go_sem];rfl⟩
 rintro m' a' h' hn' ⟨i,hi,rfl,rfl,hst,e0,e1,e5⟩
 by_cases hlt:i<a.length
 rotate_left
 ·have hi0:decide ((i:Int)<(a.length:Int))=false:=dcF (by omega)
  have e:d4 a b=false:=by
   rw[hst,List.drop_eq_nil_of_le (by omega),List.drop_eq_nil_of_le (by omega)]
   rfl
  simp -dsimp only[go_sem,e0,e5,hi0,hr,e]
 have hltb:i<b.length:=by omega
 have hi1:decide ((i:Int)<(a.length:Int))=true:=dcT (Int.ofNat_lt.2 hlt)
 obtain ⟨ba,oa,rfl,ha2⟩:=hA (aO hlt)
 obtain ⟨bb,ob,rfl,hb2⟩:=hB (aO hltb)
 have la:=ha2 i _ (gEl hlt)
 have lb:=hb2 i _ (gEl hltb)
 rw[List.drop_eq_getElem_cons hlt,List.drop_eq_getElem_cons hltb,d4] at hst
 simp -dsimp only[go_sem,e0,e1,e5,hi1]
 refine iN (n:=40) (by simp -dsimp only[go_sem,hn']) (by kernel_rfl) (by kernel_rfl) ?_
 simp -dsimp only[go_sem,ep,e0,e1,e5,xF hlt,xF hltb,la,lb]
 by_cases hs:a[i].data.toList=b[i].data.toList
 ·have k2:decide (a[i].data.toList=b[i].data.toList)=true:=dcT hs
  rw[if_pos hs] at hst
  simp -dsimp only[go_sem,k2,Bool.not_true,e0,e1,e5,ah hlt (lTr hl (by decide))]
  exact ⟨a.length - (i+1),by omega,i+1,hlt,rfl,hst,rfl⟩
 ·have k2:decide (a[i].data.toList=b[i].data.toList)=false:=dcF hs
  rw[if_neg hs] at hst
  simp -dsimp only[go_sem,k2,Bool.not_false]
  refine iN (n:=40) (by simp -dsimp only[go_sem,hn']) (by kernel_rfl) (by kernel_rfl) ?_
  simp -dsimp only[go_sem,ep,e0,e1,e5,xF hlt,xF hltb,la,lb,Bi,hr]
  rw[hst]
  rfl
abbrev Tx:=List ByteArray
def bZ (L:List Tx) (x:Tx):Nat:=L.findIdx fun y => !bW y x
def bp (L:List Tx) (x:Tx):List Tx:=match L[bZ L x]? with
 | some y=>if bW x y=false then L else L.take (bZ L x)++[x]++L.drop (bZ L x)
 | none=>L.take (bZ L x)++[x]++L.drop (bZ L x)
theorem mX (L:List Tx) (x:Tx):bZ L x<=L.length:=List.findIdx_le_length
theorem vq {L:List Tx} {x:Tx} {j:Nat} (h:j<bZ L x):∃hj:j<L.length,bW L[j] x=true:=by
 have hj:j<L.length:=lTl h (mX L x)
 refine ⟨hj,?_⟩
 have:=List.not_of_lt_findIdx h
 simpa using this
theorem vt {L:List Tx} {x:Tx} {i:Nat} (hi:i<=L.length) (h1:∀j,(hj:j<i)->bW (L[j]'(by omega)) x=true) (h2:∀hj:i<L.length,bW L[i] x=false):bZ L x=i:=by
 rcases Nat.lt_trichotomy (bZ L x) i with c|c|c
 ·have hl:bZ L x<L.length:=by omega
  have h3:(!bW (L[bZ L x]) x)=true:=List.findIdx_getElem (w:=hl)
  rw[h1 _ c] at h3
  cases h3
 ·exact c
 ·obtain ⟨hj,h3⟩:=vq c
  rw[h2 hj] at h3
  cases h3
theorem pP {h:Hp} {t e:TypeId} {n0 f0:Nat} {cs:List Value} {v:Value} (hu:Tryz.prog.underlying t=some (.slice e)) (hs:aA Tryz.prog e=some 1) (k:OwnZ e h n0 f0 cs v) {i:Nat} (hi:i<=cs.length):dn Tryz.prog h t v none (some (.int .i64 (i:Int))) none=some (hiV v i)/\l6 h (hiV v i) (cs.take i):=by
 rcases k with ⟨rfl,rfl⟩|⟨b,f,rfl,hr,hb0,hf⟩
 ·have:i=0:=by simpa using hi
  subst this
  refine ⟨?_,rfl,rfl⟩
  simp only[dn,hu,hs]
  rfl
 ·obtain ⟨bs',g,hrow⟩:=hr.row
  have hlo:=hr.lo
  refine ⟨?_,?_,?_⟩
  ·have e1:Nat.ble cs.length cs.length=true:=by simp
   have e2:Nat.ble i cs.length=true:=tI hi
   have e3:Nat.ble 0 i=true:=by simp
   cases g
   ·simp only[dn,hu,hs,dU hlo,hrow,e1,ca,hiV]
    simp only[show ((i:Int))=Int.ofNat i from rfl,e2]
    simp[j6]
   ·simp only[dn,hu,hs,dU hlo,hrow,e1,ca,hiV]
    simp only[show ((i:Int))=Int.ofNat i from rfl,e2]
    simp[j6]
  ·simp only[hiV,d7,List.length_take]
   congr 1
   omega
  ·simp only[hiV,bS,cB hr,List.drop_zero,Nat.mul_one,List.length_take,Nat.min_eq_left hi]
   exact pq _ _ hi
theorem jp {h:Hp} {t e:TypeId} {n0 f0:Nat} {cs:List Value} {v:Value} (hu:Tryz.prog.underlying t=some (.slice e)) (hs:aA Tryz.prog e=some 1) (k:OwnZ e h n0 f0 cs v) {i:Nat} (hi:i<=cs.length):dn Tryz.prog h t v (some (.int .i64 (i:Int))) none none=some (loV v i)/\l6 h (loV v i) (cs.drop i):=by
 rcases k with ⟨rfl,rfl⟩|⟨b,f,rfl,hr,hb0,hf⟩
 ·have:i=0:=by simpa using hi
  subst this
  refine ⟨?_,rfl,rfl⟩
  simp only[dn,hu,hs]
  rfl
 ·obtain ⟨bs',g,hrow⟩:=hr.row
  have hlo:=hr.lo
  refine ⟨?_,?_,?_⟩
  ·have e1:Nat.ble cs.length cs.length=true:=by simp
   have e2:Nat.ble i cs.length=true:=tI hi
   cases g
   ·simp only[dn,hu,hs,dU hlo,hrow,e1,ca,loV]
    simp only[show ((i:Int))=Int.ofNat i from rfl,e2]
   ·simp only[dn,hu,hs,dU hlo,hrow,e1,ca,loV]
    simp only[show ((i:Int))=Int.ofNat i from rfl,e2]
  ·simp only[loV,d7,List.length_drop]
  ·simp only[loV,Option.map_some,j6,bS,cB hr,Nat.mul_one,List.length_drop,Nat.zero_add]
   rw[<-List.length_drop]
   exact dB _
theorem wZ {e:TypeId} {h:Hp} {n0 f0:Nat} {cs:List Value} {v:Value} (k:OwnZ e h n0 f0 cs v) (i j:Nat):aB j (hiV v i) (hiV v i)=true:=by
 obtain ⟨A,rfl,hA⟩:=k.len
 exact ab hA _ _ _
theorem w8 {e:TypeId} {h:Hp} {n0 f0:Nat} {cs:List Value} {v:Value} (k:OwnZ e h n0 f0 cs v) (i j:Nat):aB j (loV v i) (loV v i)=true:=by
 rcases k with ⟨rfl,rfl⟩|⟨b,f,rfl,hr,hb0,hf⟩
 ·exact ab rfl _ _ _
 ·refine ab ?_ _ _ _
  simp only[Option.map_some,j6]
  rfl
theorem uw {h:Hp} {v x:Value} {n0 f0:Nat} {cs ds:List Value} (hx1:ds.all oneCell=true) (k:OwnZ 34 h n0 f0 cs v) (hw:l6 h x ds) (hb:h.base<=h.next) (hn0:n0<=h.next) (hf0:f0<=h.nfam) (hsz:cs.length+ds.length<=1000000) :
  ∃v' h',bt Tryz.prog h [60,60] [v,x]=some (v',h')/\OwnZ 34 h' n0 f0 (cs++ds) v'/\pm 34 h n0 f0 h'/\tG h h' :=
 io (e:=34) (t:=60) Tryz.underlying60 eJ oy (by exact ⟨rfl,by decide⟩) (by kernel_rfl) (by kernel_rfl) hx1 k hw hb hn0 hf0 hsz
theorem rp {h:Hp} {v x:Value} {n0 f0:Nat} {cs ds:List Value} (hx1:ds.all oneCell=true) (k:OwnZ 9 h n0 f0 cs v) (hw:l6 h x ds) (hb:h.base<=h.next) (hn0:n0<=h.next) (hf0:f0<=h.nfam) (hsz:cs.length+ds.length<=1000000) :
  ∃v' h',bt Tryz.prog h [34,34] [v,x]=some (v',h')/\OwnZ 9 h' n0 f0 (cs++ds) v'/\pm 9 h n0 f0 h'/\tG h h' :=
 io (e:=9) (t:=34) Tryz.underlying34 sz9 z9 (by exact ⟨rfl,by decide⟩) (by kernel_rfl) (by kernel_rfl) hx1 k hw hb hn0 hf0 hsz
theorem rq {h:Hp} {e:TypeId} {wb:Nat} {ds:List Value} {n c:Nat} (hw:h.own wb e ds) (hn:n=ds.length):l6 h (.slice (some ⟨wb,0,none⟩) n c) ds:=by
 subst hn
 refine ⟨rfl,?_⟩
 simp only[bS,af hw,List.drop_zero,Nat.mul_one]
 exact dB _
theorem ux {e:TypeId} {x:Value} (h:aB 9 x x=true):nA (.cells ⟨[x],e,0,0,false⟩) (.cells ⟨[x],e,0,0,false⟩)=true:=by
 simp[nA,jW,h]
theorem pQ {L:List Tx} {x:Tx} {A:Option Addr} {u:Value} {h:Hp} (hA:L≠[]->∃b,A=some ⟨b,0,none⟩/\∀(i:Nat) (ss:Tx),L[i]? = some ss->∃w,h.load ⟨b,i,none⟩=some w/\TxV h w ss) (hx:TxV h u x) (hl:L.length<=100000) (hss:∀y∈L,y.length<=100000)
  {a:Ev.A} {Q:Ex->Ev.A->Hp->Prop} (hn:a.n=47) (g0:a.get 0=.slice A L.length L.length) (g1:a.get 1=u) (g5:a.get 5=.int .i64 0)
  (hq:∀a1:Ev.A,a1.n=47->a1.get 0=.slice A L.length L.length->a1.get 1=u->a1.get 5=.int .i64 (bZ L x:Nat)->Q (.exit 0) a1 h):Th Tryz.prog (aw Tryz.f43 [1,1,0,0]) a h Q ⟨⟩ ⟨⟩:=by
 simp only[aw,nav,Tryz.f43]
 refine au (n:=47) (by kernel_rfl) (fun m' a' h'=>∃i:Nat,i<=L.length/\m'=L.length - i/\h'=h/\(∀j,(hj:j<i)->∀hj2:j<L.length,bW L[j] x=true) /\
  a'.get 0=.slice A L.length L.length/\a'.get 1=u/\a'.get 5=.int .i64 (i:Int)) ?_ L.length _ _ hn ⟨0,lZr _,rfl,rfl,fun j hj=>absurd hj (lNz _),g0,g1,g5⟩
 rintro m' a' h' hn' ⟨i,hi,rfl,rfl,hst,e0,e1,e5⟩
 by_cases hlt:i<L.length
 rotate_left
 ·have hi0:decide ((i:Int)<(L.length:Int))=false:=dcF (by omega)
  have hp:bZ L x=i:=vt hi (fun j hj=>hst j hj (by omega)) (fun c=>absurd c hlt)
  simp -dsimp only[go_sem,e0,e5,hi0]
  exact hq _ (by simp -dsimp only[go_sem,hn']) (by simp -dsimp only[go_sem,e0]) (by simp -dsimp only[go_sem,e1]) (by simp -dsimp only[go_sem,e5,hp])
 have hi1:decide ((i:Int)<(L.length:Int))=true:=dcT (Int.ofNat_lt.2 hlt)
 obtain ⟨b,rfl,hA2⟩:=hA (aO hlt)
 obtain ⟨w,la,hw⟩:=hA2 i _ (gEl hlt)
 have la':h'.load ⟨b,0+i*1,none⟩=some w:=by rw[Nat.zero_add,Nat.mul_one];exact la
 have hcall:=uv h' hw.strsAt hx.strsAt (lTr (hss _ (List.getElem_mem hlt)) (by decide))
 simp -dsimp only[go_sem,e0,e1,e5,hi1,kN hlt,la,la',Nat.zero_add,Nat.mul_one]
 refine ⟨_,_,hcall,?_⟩
 cases hs:bW L[i] x with
 | true =>
   simp -dsimp only[go_sem,e0,e1,e5,hi1,hs,ah hlt (lTr hl (by decide))]
   refine ⟨L.length - (i+1),by omega,i+1,hlt,rfl,fun j hj hj2 => ?_,rfl⟩
   by_cases e:j=i
   ·subst e;exact hs
   ·exact hst j (by omega) hj2
 | false =>
   have hp:bZ L x=i:=vt hi (fun j hj=>hst j hj (by omega)) (fun _=>hs)
   simp -dsimp only[go_sem,e0,e1,e5,hi1,hs]
   exact hq _ (by simp -dsimp only[go_sem,hn']) (by simp -dsimp only[go_sem,e0]) (by simp -dsimp only[go_sem,e1]) (by simp -dsimp only[go_sem,e5,hp])
theorem uy {L:List Tx} {x:Tx} {h:Hp} {v u:Value} (k:LLV h v L) (hx:TxV h u x) (hb:h.base<=h.next) (hl:L.length<=100000) (hss:∀y∈L,y.length<=100000) (hxl:x.length<=100000) :
  ∃w h1,Snd Tryz.prog 43 [v,u] h w h1/\Ext h h1/\LLV h1 w (bp L x):=by
 have hpl:=mX L x
 obtain ⟨Au,rfl,hAu⟩:=OwnZ.len hx
 generalize hun:(dw x).length=un at hx ⊢
 obtain ⟨A,rfl,hsA,hA⟩:=k.at'
 have k':=k
 obtain ⟨vs,kO,kT⟩:=k
 have hvl:=kT.len
 have hr:Tryz.f43.results.toList=[.tmp 4]:=rfl
 have goes:∀i,i<L.length->∃b w,A=some ⟨b,0,none⟩/\h.load ⟨b,i,none⟩=some w/\∃hi:i<L.length,TxV h w L[i]:=by
  intro i hi
  obtain ⟨b,e,q⟩:=hA (aO hi)
  obtain ⟨w,q1,q2⟩:=q i _ (gEl hi)
  exact ⟨b,w,e,q1,hi,q2⟩
 by_cases hf:∃hp:bZ L x<L.length,bW x (L[bZ L x]'hp)=false
 ·obtain ⟨hp,hxs⟩:=hf
  refine ⟨.slice A L.length L.length,h,?_,Ext.refl _,?_⟩
  ·refine pt (yj wf Tryz.func43 rfl rfl (n:=47) rfl (by kernel_rfl) rfl ?_)
   intro a hn hg
   have g0:=hg 0
   have g1:=hg 1
   clear hg
   simp only[gC0,gC1] at g0 g1
   simp -dsimp only[go_sem]
   refine se wf (pQ (L:=L) (x:=x) (u:=.slice Au un un) hA hx hl hss (by simp -dsimp only[go_sem,hn]) (A:=A) (by simp -dsimp only[go_sem,g0]) (by simp -dsimp only[go_sem,g1]) (by simp -dsimp only[go_sem]) (fun ax hn1 e0 e1 e5 => ?_))
   have hi1:decide (((bZ L x:Nat):Int)<(L.length:Int))=true:=dcT (Int.ofNat_lt.2 hp)
   obtain ⟨b,w,rfl,la,_,hw⟩:=goes _ hp
   have hcall:=uv h hx.strsAt hw.strsAt (lTr hxl (by decide))
   rw[hxs] at hcall
   simp -dsimp only[go_sem,e0,e1,e5,hi1,kN hp,la,Nat.zero_add,Nat.mul_one]
   refine sd hcall ?_
   simp -dsimp only[go_sem,e0,e1,e5,hi1,Bool.not_false,hr]
  ·have:bp L x=L:=by
    unfold bp
    rw[gEl hp]
    exact if_pos hxs
   rw[this]
   exact k'
 ·have hins:bp L x=L.take (bZ L x)++[x]++L.drop (bZ L x):=by
   unfold bp
   cases hx':L[bZ L x]? with
   | none=>rfl
   | some y =>
     have hxx:=List.getElem?_eq_some_iff.1 hx'
     exact if_neg (fun c=>hf ⟨hxx.1,by rw[hxx.2];exact c⟩)
  obtain ⟨q1,q2,q3⟩:=Ao (h:=h) (k:=13) (i:=6) (c:=[.slice Au un un]) (e:=34) rfl
  obtain ⟨H0,hH0⟩:∃H0,pu h 13 [(6,.cells ⟨[.slice Au un un],34,0,0,false⟩)]=H0:=⟨_,rfl⟩
  rw[hH0] at q1 q2 q3
  have hb0:H0.base<=H0.next:=by rw[q1.base];exact lTr hb q1.next
  have hi':bZ L x<=vs.length:=by rw[hvl];exact hpl
  obtain ⟨a1,a2⟩:=pP (t:=60) Tryz.underlying60 eJ (kO.ext q1) hi'
  obtain ⟨v1,H1,p1,o1,⟨x1,_⟩,_⟩:=uw (n0:=H0.next) (f0:=H0.nfam) (cs:=[]) (kT.take (bZ L x)).cells (.inl ⟨rfl,rfl⟩) a2 hb0 (lRf _) (lRf _) (by simp only[List.length_take,List.length_nil];omega)
  have z1:Ext H0 H1:=(x1 (fun _=>False) H0 (Ext.refl _).toS (lRf _) (lRf _)).ext (fun _ _ c=>c)
  have hb1:H1.base<=H1.next:=by rw[z1.base];exact lTr hb0 z1.next
  have hw0:H0.own (h.next+6) 34 [.slice Au un un]:=⟨by rw[q1.base];omega,by rw[q3];omega,q2⟩
  have hw1:=aj z1 hw0
  obtain ⟨v2,H2,p2,o2,⟨x2,_⟩,_⟩:=uw (ds:=[.slice Au un un]) hx.cell o1 (rq hw1 (n:=1) (c:=1) rfl) hb1 z1.next z1.nfam (by simp only[List.length_append,List.length_take,List.length_nil,List.length_cons];omega)
  have z2:Ext H0 H2:=(x2 (fun _=>False) H0 z1.toS (lRf _) (lRf _)).ext (fun _ _ c=>c)
  have hb2:H2.base<=H2.next:=by rw[z2.base];exact lTr hb0 z2.next
  obtain ⟨b1,b2⟩:=jp (t:=60) Tryz.underlying60 eJ (kO.ext (q1.trans z2)) hi'
  have b10:=(jp (t:=60) Tryz.underlying60 eJ (kO.ext q1) hi').1
  have b11:=(jp (t:=60) Tryz.underlying60 eJ (kO.ext (q1.trans z1)) hi').1
  obtain ⟨v3,H3,p3,o3,⟨x3,_⟩,_⟩:=uw (kT.drop (bZ L x)).cells o2 b2 hb2 z2.next z2.nfam (by simp only[List.length_append,List.length_take,List.length_drop,List.length_nil,List.length_cons];omega)
  have z3:Ext H0 H3:=(x3 (fun _=>False) H0 z2.toS (lRf _) (lRf _)).ext (fun _ _ c=>c)
  have s0:=ab hsA 9 L.length L.length
  have s1:=wZ kO (bZ L x) 9
  have s2:=w8 kO (bZ L x) 9
  have s3:aB 9 v1 v1=true:=o1.same 9
  have s4:aB 9 v2 v2=true:=o2.same 9
  have s5:aB 9 v3 v3=true:=o3.same 9
  have s6:aB 9 (.slice Au un un) (.slice Au un un)=true:=OwnZ.same hx 9
  have s7:=ux (e:=34) s6
  have hxz:Ext h H3:=q1.trans z3
  refine ⟨v3,H3,?_,hxz,?_⟩
  ·refine pt (yj wf Tryz.func43 rfl rfl (n:=47) rfl (by kernel_rfl) rfl ?_)
   intro a hn hg
   have g0:=hg 0
   have g1:=hg 1
   clear hg
   simp only[gC0,gC1] at g0 g1
   simp -dsimp only[go_sem]
   refine se wf (pQ (L:=L) (x:=x) (u:=.slice Au un un) hA hx hl hss (by simp -dsimp only[go_sem,hn]) (A:=A) (by simp -dsimp only[go_sem,g0]) (by simp -dsimp only[go_sem,g1]) (by simp -dsimp only[go_sem]) (fun ax hn1 e0 e1 e5 => ?_))
   by_cases hp:bZ L x<L.length
   ·have hi1:decide (((bZ L x:Nat):Int)<(L.length:Int))=true:=dcT (Int.ofNat_lt.2 hp)
    obtain ⟨b,w,rfl,la,_,hw⟩:=goes _ hp
    have hcall:=uv h hx.strsAt hw.strsAt (lTr hxl (by decide))
    have hxs:bW x L[bZ L x]=true:=by
     cases c:bW x L[bZ L x] with
     | true=>rfl
     | false=>exact absurd ⟨hp,c⟩ hf
    rw[hxs] at hcall
    simp -dsimp only[go_sem,e0,e1,e5,hi1,kN hp,la,Nat.zero_add,Nat.mul_one]
    refine sd hcall ?_
    simp -dsimp only[go_sem,e0,e1,e5,hi1,Bool.not_true,hr]
    refine v6 (H0:=H0) wf [[],[],[],[1,2],[0,1,2,3],[],[5],[0,1,2,3,4,5,6],[],[],[8,9],[0,1,2,3,4,5,6,7,8,9,10],[0,1,2,3,4,5,6,7,8,9,10,11]] (n:=47) (by simp -dsimp only[go_sem,hn1]) (by kernel_rfl) hH0 ?_
    simp -dsimp only[go_sem,e0,e1,e5,a1,b1,b10,b11,oA 1 (by decide),aC,s7,q2,hw1.2.2,bP,p1,p2,p3,s0,s1,s2,s3,s4,s5,s6,Option.toList_none,Option.toList_some,Option.bind_none,Option.bind_some,List.nil_append,List.append_nil,List.cons_append,hr]
   ·have hi1:decide (((bZ L x:Nat):Int)<(L.length:Int))=false:=dcF (by omega)
    simp -dsimp only[go_sem,e0,e1,e5,hi1,hr]
    refine v6 (H0:=H0) wf [[],[],[],[1,2],[0,1,2,3],[],[5],[0,1,2,3,4,5,6],[],[],[8,9],[0,1,2,3,4,5,6,7,8,9,10],[0,1,2,3,4,5,6,7,8,9,10,11]] (n:=47) (by simp -dsimp only[go_sem,hn1]) (by kernel_rfl) hH0 ?_
    simp -dsimp only[go_sem,e0,e1,e5,a1,b1,b10,b11,oA 1 (by decide),aC,s7,q2,hw1.2.2,bP,p1,p2,p3,s0,s1,s2,s3,s4,s5,s6,Option.toList_none,Option.toList_some,Option.bind_none,Option.bind_some,List.nil_append,List.append_nil,List.cons_append,hr]
  ·rw[hins]
   rw[List.nil_append] at o3
   refine ⟨_,o3.lower (lZr _) (lZr _),?_⟩
   exact ((kT.ext hxz).take _ |>.app (TxVs.one (OwnZ.ext hxz hx))).app ((kT.ext hxz).drop _)
theorem yW (a b:List ByteArray):dw (a++b)=dw a++dw b:=List.map_append
theorem jq (l:List ByteArray):(dw l).all oneCell=true:=by
 unfold dw
 rw[List.all_map]
 exact List.all_eq_true.2 fun _ _=>rfl
def cK (most:Nat) (x y:Tx) (out:List Tx):List Tx:=if x.length+y.length<=most then bp out (x++y) else out
def cF (most cap:Nat) (x:Tx):List Tx->List Tx×Bool->List Tx×Bool
 | [],s=>s
 | y::b,s=>if s.2=true then cF most cap x b (cK most x y s.1,decide ((cK most x y s.1).length<=cap)) else s
def aS (most cap:Nat) (b:List Tx):List Tx->List Tx×Bool->List Tx×Bool
 | [],s=>s
 | x::a,s=>if s.2=true then aS most cap b a (cF most cap x b s) else s
theorem jr {L:List Tx} {x z:Tx} (h:z∈bp L x):z∈L\/z=x:=by
 unfold bp at h
 have go:z∈L.take (bZ L x)++[x]++L.drop (bZ L x)->z∈L\/z=x:=by
  intro h
  rw[List.mem_append,List.mem_append,List.mem_singleton] at h
  rcases h with (h|h)|h
  ·exact .inl (List.mem_of_mem_take h)
  ·exact .inr h
  ·exact .inl (List.mem_of_mem_drop h)
 split at h
 ·split at h
  ·exact .inl h
  ·exact go h
 ·exact go h
theorem jt (L:List Tx) (x:Tx):(bp L x).length<=L.length+1:=by
 have:=mX L x
 unfold bp
 split
 ·split
  ·omega
  ·simp only[List.length_append,List.length_take,List.length_drop,List.length_cons,List.length_nil];omega
 ·simp only[List.length_append,List.length_take,List.length_drop,List.length_cons,List.length_nil];omega
theorem rs {most:Nat} {x y z:Tx} {out:List Tx} (h:z∈cK most x y out):z∈out\/z.length<=most:=by
 unfold cK at h
 split at h
 ·rename_i c
  rcases jr h with h|h
  ·exact .inl h
  ·exact .inr (by rw[h,List.length_append];exact c)
 ·exact .inl h
theorem rt {most:Nat} {x y:Tx} {out:List Tx}:(cK most x y out).length<=out.length+1:=by
 unfold cK
 split
 ·exact jt _ _
 ·omega
structure JoinOk (most cap:Nat) (s:List Tx×Bool):Prop where
 len:s.1.length<=cap+1
 okl:s.2=true->s.1.length<=cap
 mem:∀z∈s.1,z.length<=most
theorem JoinOk.step {most cap:Nat} {s:List Tx×Bool} (k:JoinOk most cap s) (x y:Tx) (h:s.2=true):JoinOk most cap (cK most x y s.1,decide ((cK most x y s.1).length<=cap)) :=
 ⟨by
  have:=k.okl h
  have:=rt (most:=most) (x:=x) (y:=y) (out:=s.1)
  show (cK most x y s.1).length<=cap+1
  omega,fun e=>dcO e,fun z hz=>(rs hz).elim (k.mem z) id⟩
theorem uz {a b:List Tx} {most cap i:Nat} {A B:Option Addr} {h:Hp} (hi:i<a.length)
  (hA:a≠[]->∃p,A=some ⟨p,0,none⟩/\∀(j:Nat) (ss:Tx),a[j]? = some ss->∃w,h.load ⟨p,j,none⟩=some w/\TxV h w ss) (hB:b≠[]->∃p,B=some ⟨p,0,none⟩/\∀(j:Nat) (ss:Tx),b[j]? = some ss->∃w,h.load ⟨p,j,none⟩=some w/\TxV h w ss)
  (hkA:∀h',Ext h h'->∀(p j:Nat) (w:Value),A=some ⟨p,0,none⟩->h.load ⟨p,j,none⟩=some w->h'.load ⟨p,j,none⟩=some w) (hkB:∀h',Ext h h'->∀(p j:Nat) (w:Value),B=some ⟨p,0,none⟩->h.load ⟨p,j,none⟩=some w->h'.load ⟨p,j,none⟩=some w)
  (hlb:b.length<=100000) (ha1:∀z∈a,z.length<=10000) (hb1:∀z∈b,z.length<=10000) (hcap:cap<=1000) (hmost:most<=1000)
  {ac:Ev.A} {Q:Ex->Ev.A->Hp->Prop} (hn:ac.n=65) (hb:h.base<=h.next) {s:List Tx×Bool} {w:Value} (hJ:JoinOk most cap s) (hw:LLV h w s.1)
  (g0:ac.get 0=.slice A a.length a.length) (g1:ac.get 1=.slice B b.length b.length) (g2:ac.get 2=.int .i64 (most:Int)) (g3:ac.get 3=.int .i64 (cap:Int)) (g4:ac.get 4=.bool s.2) (g12:ac.get 12=w) (g13:ac.get 13=.int .i64 (i:Int)) (g14:ac.get 14=.int .i64 0)
  (hq:∀(a1:Ev.A) (h1:Hp) (w1:Value),a1.n=65->Ext h h1->JoinOk most cap (cF most cap a[i] b s)->LLV h1 w1 (cF most cap a[i] b s).1->a1.get 0=.slice A a.length a.length->a1.get 1=.slice B b.length b.length->a1.get 2=.int .i64 (most:Int)->a1.get 3=.int .i64 (cap:Int)->a1.get 4=.bool (cF most cap a[i] b s).2->a1.get 12=w1->a1.get 13=.int .i64 (i:Int)->Q (.exit 2) a1 h1) :
  Th Tryz.prog (aw Tryz.f42 [1,1,0,1,0,0,1,0,0,1,0]) ac h Q ⟨⟩ ⟨⟩:=by
 simp only[aw,nav,Tryz.f42]
 refine au (n:=65) (by kernel_rfl) (fun m' a' h'=>∃(k:Nat) (t:List Tx×Bool) (w1:Value),k<=b.length/\m'=b.length - k/\Ext h h'/\JoinOk most cap t/\LLV h' w1 t.1/\cF most cap a[i] b s=cF most cap a[i] (b.drop k) t /\
  a'.get 0=.slice A a.length a.length/\a'.get 1=.slice B b.length b.length/\a'.get 2=.int .i64 (most:Int)/\a'.get 3=.int .i64 (cap:Int)/\a'.get 4=.bool t.2/\a'.get 12=w1/\a'.get 13=.int .i64 (i:Int)/\a'.get 14=.int .i64 (k:Int)) ?_ b.length _ _ hn ⟨0,s,w,lZr _,rfl,Ext.refl _,hJ,hw,rfl,g0,g1,g2,g3,g4,g12,g13,g14⟩
 rintro m' a' h' hn' ⟨k,t,w1,hk,rfl,hx,hJt,hw1,hst,e0,e1,e2,e3,e4,e12,e13,e14⟩
 have hb':h'.base<=h'.next:=by rw[hx.base];exact lTr hb hx.next
 by_cases hlt:k<b.length
 rotate_left
 ·have hi0:decide ((k:Int)<(b.length:Int))=false:=dcF (by omega)
  rw[List.drop_eq_nil_of_le (by omega),cF] at hst
  simp -dsimp only[go_sem,e1,e14,hi0]
  exact hq _ _ w1 (by simp -dsimp only[go_sem,hn']) hx (by rw[hst];exact hJt) (by rw[hst];exact hw1) (by simp -dsimp only[go_sem,e0]) (by simp -dsimp only[go_sem,e1]) (by simp -dsimp only[go_sem,e2]) (by simp -dsimp only[go_sem,e3]) (by simp -dsimp only[go_sem,e4,hst]) (by simp -dsimp only[go_sem,e12]) (by simp -dsimp only[go_sem,e13])
 have hi1:decide ((k:Int)<(b.length:Int))=true:=dcT (Int.ofNat_lt.2 hlt)
 rw[List.drop_eq_getElem_cons hlt,cF] at hst
 cases hok:t.2 with
 | false =>
   rw[hok,if_neg (by simp)] at hst
   rw[hok] at e4
   simp -dsimp only[go_sem,e1,e4,e14,hi1]
   exact hq _ _ w1 (by simp -dsimp only[go_sem,hn']) hx (by rw[hst];exact hJt) (by rw[hst];exact hw1) (by simp -dsimp only[go_sem,e0]) (by simp -dsimp only[go_sem,e1]) (by simp -dsimp only[go_sem,e2]) (by simp -dsimp only[go_sem,e3]) (by simp -dsimp only[go_sem,e4,hst,hok]) (by simp -dsimp only[go_sem,e12]) (by simp -dsimp only[go_sem,e13])
 | true =>
   rw[hok,if_pos rfl] at hst
   rw[hok] at e4
   obtain ⟨pa,rfl,qa⟩:=hA (aO hi)
   obtain ⟨pb,rfl,qb⟩:=hB (aO hlt)
   obtain ⟨wa,la,ta⟩:=qa i _ (gEl hi)
   obtain ⟨wb,lb,tb⟩:=qb k _ (gEl hlt)
   have la':=hkA h' hx pa i wa rfl la
   have lb':=hkB h' hx pb k wb rfl lb
   have ta':TxV h' wa a[i]:=OwnZ.ext hx ta
   have tb':TxV h' wb b[k]:=OwnZ.ext hx tb
   obtain ⟨Aa,rfl,hAa⟩:=OwnZ.len ta
   obtain ⟨Ab,rfl,hAb⟩:=OwnZ.len tb
   have xa:=ha1 _ (List.getElem_mem hi)
   have xb:=hb1 _ (List.getElem_mem hlt)
   have sa:aB 9 (.slice Aa (dw a[i]).length (dw a[i]).length) (.slice Aa (dw a[i]).length (dw a[i]).length)=true:=ab hAa _ _ _
   have sb:aB 9 (.slice Ab (dw b[k]).length (dw b[k]).length) (.slice Ab (dw b[k]).length (dw b[k]).length)=true:=ab hAb _ _ _
   simp only[cp] at la' lb' ta' tb' sa sb
   have hwr:IntKind.i64.wrap ((a[i].length:Int)+(b[k].length:Int))=((a[i].length+b[k].length:Nat):Int):=by
    rw[<-Int.natCast_add]
    exact dq (by omega)
   simp -dsimp only[go_sem,e0,e1,e2,e4,e13,e14,hi1]
   refine iN (n:=65) (by simp -dsimp only[go_sem,hn']) (by kernel_rfl) (by kernel_rfl) ?_
   simp -dsimp only[go_sem,ep,e0,e1,e2,e13,e14,kN hi,kN hlt,la',lb',sa,sb,Nat.zero_add,Nat.mul_one,hwr]
   by_cases c:a[i].length+b[k].length<=most
   ·have k2:decide (((a[i].length+b[k].length:Nat):Int)<=(most:Int))=true:=dcT (Int.ofNat_le.2 c)
    have hx1:=Ext.new h' (ak.cells ⟨[],9,0,0,false⟩)
    have hZ0:OwnZ 9 (h'.newH (ak.cells ⟨[],9,0,0,false⟩)) h'.next h'.nfam [] (.slice (some ⟨h'.next,0,none⟩) 0 0) :=
     .inr ⟨h'.next,0,rfl,⟨hb',lSs _,⟨0,false,by simp only[Hp.row,cW,if_true]⟩,fun e=>absurd rfl e⟩,lRf _,fun e=>absurd rfl e⟩
    have hb1':(h'.newH (ak.cells ⟨[],9,0,0,false⟩)).base<=(h'.newH (ak.cells ⟨[],9,0,0,false⟩)).next:=Nat.le_succ_of_le hb'
    have la1:=hkA _ (hx.trans hx1) pa i _ rfl la
    have lb1:=hkB _ (hx.trans hx1) pb k _ rfl lb
    simp -dsimp only[go_sem,k2]
    refine aD (n:=65) [[],[],[],[],[2,3],[2,3,4],[1,2,3,4,5],[],[],[7,8],[7,8,9],[1,2,3,4,5,6,7,8,9,10],[0,1,2,3,4,5,6,7,8,9,10,11],[0,1,2,3,4,5,6,7,8,9,10,11,12]] (by simp -dsimp only[go_sem,hn']) (by kernel_rfl) ?_
    obtain ⟨Aw,hAw,hAs,_⟩:=hw1.at'
    have sw:aB 9 w1 w1=true:=by rw[hAw];exact ab hAs _ _ _
    simp only[cp] at la1 lb1
    obtain ⟨v2,H2,p2,o2,⟨x2,_⟩,_⟩:=rp (jq a[i]) hZ0 (OwnZ.ext hx1 ta').src hb1' hx1.next hx1.nfam (by simp only[cp,List.length_nil];omega)
    have z2:Ext h' H2:=(x2 (fun _=>False) h' hx1.toS (lRf _) (lRf _)).ext (fun _ _ c=>c)
    have hb2:H2.base<=H2.next:=by rw[z2.base];exact lTr hb' z2.next
    have lb2:=hkB _ (hx.trans z2) pb k _ rfl lb
    have la2:=hkA _ (hx.trans z2) pa i _ rfl la
    obtain ⟨v3,H3,p3,o3,⟨x3,_⟩,_⟩:=rp (jq b[k]) o2 (OwnZ.ext z2 tb').src hb2 z2.next z2.nfam (by simp only[cp,List.length_append,List.length_nil];omega)
    have z3:Ext h' H3:=(x3 (fun _=>False) h' z2.toS (lRf _) (lRf _)).ext (fun _ _ c=>c)
    have hb3:H3.base<=H3.next:=by rw[z3.base];exact lTr hb' z3.next
    have hT3:TxV H3 v3 (a[i]++b[k]):=by
     unfold TxV
     rw[yW]
     rw[List.nil_append] at o3
     exact o3.lower (lZr _) (lZr _)
    have s2:aB 9 v2 v2=true:=o2.same 9
    have s3:aB 9 v3 v3=true:=o3.same 9
    simp only[cp] at p2 p3 lb2 la2
    have htl:=hJt.okl hok
    obtain ⟨w4,H4,hs4,x4,hL4⟩:=uy (LLV.ext z3 hw1) hT3 hb3 (by omega) (fun y hy=>by have:=hJt.mem y hy;omega) (by rw[List.length_append];omega)
    simp -dsimp only[go_sem,e0,e1,e2,e12,e13,e14,kN hi,kN hlt,la',lb',la1,lb1,la2,lb2,sa,sb,sw,s2,s3,xG 0 (by decide),aC,bP,p2,p3,Nat.zero_add,Nat.mul_one]
    refine ⟨w4,H4,hs4,?_⟩
    obtain ⟨A4,hA4,hs4',_⟩:=hL4.at'
    have s4:aB 9 w4 w4=true:=by rw[hA4];exact ab hs4' _ _ _
    have hjs:cK most a[i] b[k] t.1=bp t.1 (a[i]++b[k]):=if_pos c
    rw[hjs] at hst
    have hJ4:=hJt.step a[i] b[k] hok
    rw[hjs] at hJ4
    have k3:decide (((bp t.1 (a[i]++b[k])).length:Int)<=(cap:Int))=decide ((bp t.1 (a[i]++b[k])).length<=cap):=decide_eq_decide.2 (by omega)
    subst hA4
    simp -dsimp only[go_sem,s4,e0,e1,e2,e3,e4,e12,e13,e14,k3,ah hlt (lTr hlb (by decide))]
    refine ⟨b.length - (k+1),by omega,k+1,(bp t.1 (a[i]++b[k]),decide ((bp t.1 (a[i]++b[k])).length<=cap)),_,hlt,rfl,hx.trans (z3.trans x4),hJ4,hL4,hst,?_⟩
    exact ⟨rfl,rfl,rfl⟩
   ·have k2:decide (((a[i].length+b[k].length:Nat):Int)<=(most:Int))=false:=dcF (fun e=>c (Int.ofNat_le.1 e))
    have hjs:cK most a[i] b[k] t.1=t.1:=if_neg c
    rw[hjs] at hst
    obtain ⟨Aw,hAw,hAs,_⟩:=hw1.at'
    have htl:=hJt.okl hok
    have k3:decide ((t.1.length:Int)<=(cap:Int))=true:=dcT (by omega)
    have k3':decide (t.1.length<=cap)=true:=dcT htl
    have e12':a'.get 12=.slice Aw t.1.length t.1.length:=by rw[e12,hAw]
    rw[k3'] at hst
    simp -dsimp only[go_sem,k2,e12',e3,e14,k3,ah hlt (lTr hlb (by decide))]
    refine ⟨b.length - (k+1),by omega,k+1,(t.1,true),w1,hlt,rfl,hx,⟨hJt.len,fun _=>htl,hJt.mem⟩,hw1,hst,?_⟩
    exact ⟨e0,e1,e2,rfl,hAw.symm,e13,rfl⟩
theorem LLV.keeps {h:Hp} {A:Option Addr} {n c:Nat} {l:List Tx} (k:LLV h (.slice A n c) l):∀h',Ext h h'->∀(p j:Nat) (w:Value),A=some ⟨p,0,none⟩->h.load ⟨p,j,none⟩=some w->h'.load ⟨p,j,none⟩=some w:=by
 obtain ⟨vs,kO,_⟩:=k
 intro h' x p j w e hl
 subst e
 rcases kO with ⟨_,e⟩|⟨b,f,e,hr,_,_⟩
 ·injection e with e
  cases e
 ·injection e with e
  injection e with e
  injection e with e
  subst e
  rw[bV hr] at hl
  rw[bV (bR (x.toS (S:=fun _=>False)) hr (fun c=>c))]
  exact hl
theorem sE {a b:List Tx} {most cap:Nat} {h:Hp} {v u:Value} (hv:LLV h v a) (hu:LLV h u b) (hb:h.base<=h.next) (hla:a.length<=100000) (hlb:b.length<=100000) (ha1:∀z∈a,z.length<=10000) (hb1:∀z∈b,z.length<=10000) (hcap:cap<=1000) (hmost:most<=1000) (ok:Bool) :
  ∃w h1,Snd Tryz.prog 42 [v,u,.int .i64 (most:Int),.int .i64 (cap:Int),.bool ok] h (.tuple #[w,.bool (aS most cap b a ([],ok)).2]) h1/\Ext h h1/\LLV h1 w (aS most cap b a ([],ok)).1/\JoinOk most cap (aS most cap b a ([],ok)):=by
 suffices ∃x h1,Snd Tryz.prog 42 [v,u,.int .i64 (most:Int),.int .i64 (cap:Int),.bool ok] h x h1/\Ext h h1/\∃w,x=.tuple #[w,.bool (aS most cap b a ([],ok)).2]/\LLV h1 w (aS most cap b a ([],ok)).1/\JoinOk most cap (aS most cap b a ([],ok)) by
  obtain ⟨_,h1,hs,hx,w,rfl,q⟩:=this
  exact ⟨w,h1,hs,hx,q⟩
 obtain ⟨A,rfl,hsA,_⟩:=hv.at'
 obtain ⟨B,rfl,hsB,_⟩:=hu.at'
 refine aL wf Tryz.func42 rfl rfl (n:=65) rfl (by kernel_rfl) rfl ?_
 intro ac hn hg
 have hr:Tryz.f42.results.toList=[.tmp 10,.tmp 11]:=rfl
 have g0:=hg 0
 have g1:=hg 1
 have g2:=hg 2
 have g3:=hg 3
 have g4:=hg 4
 clear hg
 simp only[gC0,gC1] at g0 g1 g2 g3 g4
 simp -dsimp only[go_sem,g0,g1,g2,g3,g4]
 refine au (n:=65) (by kernel_rfl) (fun m' a' h'=>∃(i:Nat) (t:List Tx×Bool) (w1:Value),i<=a.length/\m'=a.length - i/\Ext h h'/\JoinOk most cap t/\LLV h' w1 t.1/\aS most cap b a ([],ok)=aS most cap b (a.drop i) t /\
  a'.get 0=.slice A a.length a.length/\a'.get 1=.slice B b.length b.length/\a'.get 2=.int .i64 (most:Int)/\a'.get 3=.int .i64 (cap:Int)/\a'.get 4=.bool t.2/\a'.get 12=w1/\a'.get 13=.int .i64 (i:Int)) ?_ a.length _ _ (by simp -dsimp only[go_sem,hn])
   ⟨0,([],ok),_,lZr _,rfl,Ext.refl _,⟨lZr _,fun _=>lZr _,fun z hz=>by cases hz⟩,LLV.nil,rfl,by simp -dsimp only[go_sem,g0],by simp -dsimp only[go_sem,g1],by simp -dsimp only[go_sem,g2],by simp -dsimp only[go_sem,g3],by simp -dsimp only[go_sem,g4],by simp -dsimp only[go_sem],by simp -dsimp only[go_sem];rfl⟩
 rintro m' a' h' hn' ⟨i,t,w1,hi,rfl,hx,hJt,hw1,hst,e0,e1,e2,e3,e4,e12,e13⟩
 have hb':h'.base<=h'.next:=by rw[hx.base];exact lTr hb hx.next
 have fin:∀(tt:List Tx×Bool),tt=t->aS most cap b a ([],ok)=t->Ext h h'/\∃w,(.tuple #[w1,.bool t.2]:Value)=.tuple #[w,.bool (aS most cap b a ([],ok)).2]/\LLV h' w (aS most cap b a ([],ok)).1/\JoinOk most cap (aS most cap b a ([],ok)):=by
  intro _ _ e
  rw[e]
  exact ⟨hx,w1,rfl,hw1,hJt⟩
 by_cases hlt:i<a.length
 rotate_left
 ·have hi0:decide ((i:Int)<(a.length:Int))=false:=dcF (by omega)
  rw[List.drop_eq_nil_of_le (by omega),aS] at hst
  simp -dsimp only[go_sem,e0,e13,e12,e4,hi0,hr]
  exact fin t rfl hst
 have hi1:decide ((i:Int)<(a.length:Int))=true:=dcT (Int.ofNat_lt.2 hlt)
 rw[List.drop_eq_getElem_cons hlt,aS] at hst
 cases hok:t.2 with
 | false =>
   rw[hok,if_neg (by simp)] at hst
   rw[hok] at e4
   have:=fin t rfl hst
   rw[hok] at this
   simp -dsimp only[go_sem,e0,e4,e12,e13,hi1,hr]
   exact this
 | true =>
   rw[hok,if_pos rfl] at hst
   rw[hok] at e4
   simp -dsimp only[go_sem,e0,e1,e2,e3,e4,e12,e13,hi1]
   have hva:=LLV.ext hx hv
   have hub:=LLV.ext hx hu
   obtain ⟨A',eA,_,qA⟩:=hva.at'
   injection eA with eA
   subst eA
   obtain ⟨B',eB,_,qB⟩:=hub.at'
   injection eB with eB
   subst eB
   refine uz (a:=a) (b:=b) (s:=t) hlt qA qB hva.keeps hub.keeps hlb ha1 hb1 hcap hmost (by simp -dsimp only[go_sem,hn']) hb' hJt hw1 (by simp -dsimp only[go_sem,e0]) (by simp -dsimp only[go_sem,e1]) (by simp -dsimp only[go_sem,e2]) (by simp -dsimp only[go_sem,e3]) (by simp -dsimp only[go_sem,e4,hok]) (by simp -dsimp only[go_sem,e12]) (by simp -dsimp only[go_sem,e13]) (by simp -dsimp only[go_sem]) (fun a1 h1 w2 hn1 hx1 hJ1 hL1 f0 f1 f2 f3 f4 f12 f13 => ?_)
   simp -dsimp only[go_sem,f0,f1,f2,f3,f4,f12,f13,ah hlt (lTr hla (by decide))]
   exact ⟨a.length - (i+1),by omega,i+1,cF most cap a[i] b t,w2,hlt,rfl,hx.trans hx1,hJ1,hL1,hst,rfl,rfl,rfl⟩
section
def fk (most cap:Nat) (l:List Tx):Nat->Int->List Tx×Bool->List Tx×Bool
 | 0,_,s=>s
 | k+1,n,s=>if n≠(s.1.length:Int)/\s.2=true then
   fk most cap l k (s.1.length:Int) ((aS most cap l s.1 ([],s.2)).1.foldl bp s.1,(aS most cap l s.1 ([],s.2)).2&&decide (((aS most cap l s.1 ([],s.2)).1.foldl bp s.1).length<=cap))
   else s
mutual
def mkP (nm:List ByteArray) (made:List (List Tx)) (most cap:Nat):ad->List Tx×Bool
 | ⟨d,t,l⟩ =>
   if d.data.toList=[105,115] then (if most<1 then ([],true) else ([[t]],true))
   else if d.data.toList=[114,117,108,101] then (made.getD (ae nm t) [],true)
   else if d.data.toList=[115,101,113] then iU nm made most cap l [[]]
   else if d.data.toList=[111,114] then orP nm made most cap l []
   else if d.data.toList=[111,112,116] then orP nm made most cap l [[]]
   else if d.data.toList=[109,97,110,121] then jP nm made most cap l
   else ([[]],true)
def iU (nm:List ByteArray) (made:List (List Tx)) (most cap:Nat):List ad->List Tx->List Tx×Bool
 | [],out=>(out,true)
 | x::l,out=>if (aS most cap (mkP nm made most cap x).1 out ([],(mkP nm made most cap x).2)).2=true then iU nm made most cap l (aS most cap (mkP nm made most cap x).1 out ([],(mkP nm made most cap x).2)).1 else ([],false)
def orP (nm:List ByteArray) (made:List (List Tx)) (most cap:Nat):List ad->List Tx->List Tx×Bool
 | [],out=>(out,true)
 | x::l,out=>if (mkP nm made most cap x).2=true/\((mkP nm made most cap x).1.foldl bp out).length<=cap then orP nm made most cap l ((mkP nm made most cap x).1.foldl bp out) else ([],false)
def jP (nm:List ByteArray) (made:List (List Tx)) (most cap:Nat):List ad->List Tx×Bool
 | []=>([[]],true)
 | x::_=>fk most cap (mkP nm made most cap x).1 (cap+3) (-1) ([[]],(mkP nm made most cap x).2)
end
def Fit (most cap:Nat) (L:List Tx):Prop:=L.length<=2*cap+1/\∀z∈L,z.length<=most
theorem ju:∀(M L:List Tx),(M.foldl bp L).length<=L.length+M.length
 | [],L=>by simp
 | x::M,L=>by
   have:=ju M (bp L x)
   have:=jt L x
   rw[List.foldl_cons,List.length_cons]
   omega
theorem fJ:∀(M L:List Tx) (z:Tx),z∈M.foldl bp L->z∈L\/z∈M
 | [],L,z,h=>.inl h
 | x::M,L,z,h=>by
   rw[List.foldl_cons] at h
   rcases fJ M _ z h with h|h
   ·rcases jr h with h|h
    ·exact .inl h
    ·exact .inr (by rw[h];exact .head _)
   ·exact .inr (.tail _ h)
theorem w9 (L:List Tx) (x:Tx):L.length<=(bp L x).length:=by
 have:=mX L x
 unfold bp
 split
 ·split
  ·omega
  ·simp only[List.length_append,List.length_take,List.length_drop,List.length_cons,List.length_nil];omega
 ·simp only[List.length_append,List.length_take,List.length_drop,List.length_cons,List.length_nil];omega
theorem lO:∀(M L:List Tx),L.length<=(M.foldl bp L).length
 | [],L=>lRf _
 | x::M,L=>lTr (w9 L x) (lO M _)
theorem oB {most cap:Nat} (x:Tx):∀(b:List Tx) {s:List Tx×Bool},JoinOk most cap s->JoinOk most cap (cF most cap x b s)
 | [],s,k=>k
 | y::b,s,k=>by
   unfold cF
   split
   ·rename_i c
    exact oB x b (k.step x y c)
   ·exact k
theorem oC {most cap:Nat} (b:List Tx):∀(a:List Tx) {s:List Tx×Bool},JoinOk most cap s->JoinOk most cap (aS most cap b a s)
 | [],s,k=>k
 | x::a,s,k=>by
   unfold aS
   split
   ·exact oC b a (oB x b k)
   ·exact k
theorem pR {most cap:Nat} (a b:List Tx) (ok:Bool):JoinOk most cap (aS most cap b a ([],ok)):=oC b a ⟨lZr _,fun _=>lZr _,fun z hz=>by cases hz⟩
theorem pS {most cap:Nat} {l:List Tx}:∀(k:Nat) (n:Int) (s:List Tx×Bool),Fit most cap s.1->(s.2=true->s.1.length<=cap)->Fit most cap (fk most cap l k n s).1
 | 0,n,s,h,_=>h
 | k+1,n,s,h,hc=>by
   unfold fk
   split
   ·rename_i c
    have hj:=pR (most:=most) (cap:=cap) s.1 l s.2
    have h2:=ju (aS most cap l s.1 ([],s.2)).1 s.1
    have:=hc c.2
    have:=hj.len
    refine pS k _ _ ⟨?_,fun z hz=>(fJ _ _ z hz).elim (h.2 z) (hj.mem z)⟩ (fun e => ?_)
    ·show ((aS most cap l s.1 ([],s.2)).1.foldl bp s.1).length<=2*cap+1
     omega
    ·rw[Bool.and_eq_true] at e
     exact dcO e.2
   ·exact h
variable {nm:List ByteArray} {made:List (List Tx)} {most cap:Nat}
mutual
theorem kP (hm:∀m∈made,Fit most cap m) (hcap:1<=cap):∀p:ad,Fit most cap (mkP nm made most cap p).1
 | ⟨d,t,l⟩=>by
   have h1:Fit most cap [[]]:=⟨by simp,fun z hz=>by rw[List.mem_singleton.1 hz];exact lZr _⟩
   unfold mkP
   split
   ·split
    ·exact ⟨lZr _,fun z hz=>by cases hz⟩
    ·rename_i c
     exact ⟨by simp,fun z hz=>by rw[List.mem_singleton.1 hz];simp;omega⟩
   split
   ·rw[List.getD_eq_getElem?_getD]
    cases he:made[ae nm t]? with
    | none=>exact ⟨lZr _,fun z hz=>by cases hz⟩
    | some m=>exact hm m (mOg he)
   split
   ·exact sF hm hcap l _ h1
   split
   ·exact ru hm hcap l _ ⟨lZr _,fun z hz=>by cases hz⟩
   split
   ·exact ru hm hcap l _ h1
   split
   ·exact xc hm hcap l
   ·exact h1
theorem sF (hm:∀m∈made,Fit most cap m) (hcap:1<=cap):∀(l:List ad) (out:List Tx),Fit most cap out->Fit most cap (iU nm made most cap l out).1
 | [],out,h=>by unfold iU;exact h
 | x::l,out,h=>by
   unfold iU
   have hj:=pR (most:=most) (cap:=cap) out (mkP nm made most cap x).1 (mkP nm made most cap x).2
   split
   ·refine sF hm hcap l _ ⟨?_,hj.mem⟩
    have:=hj.len
    omega
   ·exact ⟨lZr _,fun z hz=>by cases hz⟩
theorem ru (hm:∀m∈made,Fit most cap m) (hcap:1<=cap):∀(l:List ad) (out:List Tx),Fit most cap out->Fit most cap (orP nm made most cap l out).1
 | [],out,h=>by unfold orP;exact h
 | x::l,out,h=>by
   unfold orP
   have hx:Fit most cap (mkP nm made most cap x).1:=kP hm hcap x
   split
   ·rename_i c
    refine ru hm hcap l _ ⟨by omega,fun z hz=>(fJ _ _ z hz).elim (h.2 z) (hx.2 z)⟩
   ·exact ⟨lZr _,fun z hz=>by cases hz⟩
theorem xc (hm:∀m∈made,Fit most cap m) (hcap:1<=cap):∀(l:List ad),Fit most cap (jP nm made most cap l).1
 | []=>by unfold jP;exact ⟨by simp,fun z hz=>by rw[List.mem_singleton.1 hz];exact lZr _⟩
 | x::l=>by
   unfold jP
   exact pS _ _ _ ⟨by simp,fun z hz=>by rw[List.mem_singleton.1 hz];exact lZr _⟩ (fun _=>hcap)
end
end
section
variable {r:Ro} {G:List ar} {Gv:Option Addr} {gc mb most cap:Nat} {made:List (List Tx)}
def LLVs (h:Hp):List Value->List (List Tx)->Prop
 | [],[]=>True
 | v::vs,l::m=>LLV h v l/\LLVs h vs m
 | _,_=>False
theorem LLVs.ext {h h1:Hp} (x:Ext h h1):∀{vs:List Value} {m:List (List Tx)},LLVs h vs m->LLVs h1 vs m
 | [],[],_=>trivial
 | [],_::_,k=>k.elim
 | v::vs,l::m,k=>⟨LLV.ext x k.1,LLVs.ext x k.2⟩
theorem LLVs.get {h:Hp}:∀{vs:List Value} {m:List (List Tx)},LLVs h vs m->∀(i:Nat) (l:List Tx),m[i]? = some l->∃v,vs[i]? = some v/\LLV h v l
 | [],[],_,i,l,e=>by simp at e
 | [],_::_,k,_,_,_=>k.elim
 | v::vs,l::m,k,0,s,e=>by
   simp at e
   subst e
   exact ⟨v,rfl,k.1⟩
 | v::vs,l::m,k,i+1,s,e=>by
   obtain ⟨u,q1,q2⟩:=LLVs.get k.2 i s (by simpa using e)
   exact ⟨u,by simpa using q1,q2⟩
theorem LLVs.len {h:Hp}:∀{vs:List Value} {m:List (List Tx)},LLVs h vs m->vs.length=m.length
 | [],[],_=>rfl
 | [],_::_,k=>k.elim
 | v::vs,l::m,k=>by rw[List.length_cons,List.length_cons,LLVs.len k.2]
structure MadeAt (h:Hp) (mb:Nat) (made:List (List Tx)):Prop where
 row:∃vs,h.own mb 60 vs/\LLVs h vs made
theorem MadeAt.ext {h h1:Hp} (x:Ext h h1) (k:MadeAt h mb made):MadeAt h1 mb made:=⟨k.row.elim fun vs q=>⟨vs,aj x q.1,q.2.ext x⟩⟩
theorem LLV.same {h:Hp} {v:Value} {l:List Tx} (k:LLV h v l) (j:Nat):aB j v v=true:=by
 obtain ⟨A,rfl,hA,_⟩:=k.at'
 exact ab hA _ _ _
theorem LLV.cell {h:Hp} {v:Value} {l:List Tx} (k:LLV h v l):[v].all oneCell=true:=by
 obtain ⟨vs,k,_⟩:=k
 exact k.cell
theorem Bq {h:Hp} {M out:List Tx} {v w x1 x3 x4 x5 x7 x17 x19:Value} (hM:LLV h v M) (hMl:M.length<=10000) (hol:out.length<=10000) (hMs:∀z∈M,z.length<=10000) (hos:∀z∈out,z.length<=10000)
  {a:Ev.A} {Q:Ex->Ev.A->Hp->Prop} (hn:a.n=184) (hb:h.base<=h.next) (hw:LLV h w out) (g1:a.get 1=x1) (g3:a.get 3=x3) (g4:a.get 4=x4) (g5:a.get 5=x5) (g7:a.get 7=x7) (g16:a.get 16=w) (g17:a.get 17=x17) (g18:a.get 18=v) (g19:a.get 19=x19) (g20:a.get 20=.int .i64 0)
  (hq:∀(a1:Ev.A) (h1:Hp) (w1:Value),a1.n=184->Ext h h1->LLV h1 w1 (M.foldl bp out)->a1.get 1=x1->a1.get 3=x3->a1.get 4=x4->a1.get 5=x5->a1.get 7=x7->a1.get 16=w1->a1.get 17=x17->a1.get 19=x19->Q (.exit 5) a1 h1) :
  Th Tryz.prog (aw Tryz.f21 [1,0,1,0,1,1,1,1,1,1,1,0,1,1,0,1,0,0,1,0,0,1,0,1,0]) a h Q ⟨⟩ ⟨⟩:=by
 obtain ⟨A,rfl,hsA,qA⟩:=hM.at'
 simp only[aw,nav,Tryz.f21]
 refine au (n:=184) (by kernel_rfl) (fun m' a' h'=>∃(i:Nat) (o:List Tx) (w1:Value),i<=M.length/\m'=M.length - i/\Ext h h'/\LLV h' w1 o/\o.length<=out.length+i/\(∀z∈o,z.length<=10000)/\M.foldl bp out=(M.drop i).foldl bp o /\
  a'.get 1=x1/\a'.get 3=x3/\a'.get 4=x4/\a'.get 5=x5/\a'.get 7=x7/\a'.get 16=w1/\a'.get 17=x17/\a'.get 18=.slice A M.length M.length/\a'.get 19=x19/\a'.get 20=.int .i64 (i:Int)) ?_ M.length _ _ hn ⟨0,out,w,lZr _,rfl,Ext.refl _,hw,lRf _,hos,rfl,g1,g3,g4,g5,g7,g16,g17,g18,g19,g20⟩
 rintro m' a' h' hn' ⟨i,o,w1,hi,rfl,hx,hw1,hol1,hos1,hst,e1,e3,e4,e5,e7,e16,e17,e18,e19,e20⟩
 have hb':h'.base<=h'.next:=by rw[hx.base];exact lTr hb hx.next
 by_cases hlt:i<M.length
 rotate_left
 ·have hi0:decide ((i:Int)<(M.length:Int))=false:=dcF (by omega)
  rw[List.drop_eq_nil_of_le (by omega),List.foldl_nil] at hst
  simp -dsimp only[go_sem,e18,e20,hi0]
  exact hq _ _ w1 (by simp -dsimp only[go_sem,hn']) hx (by rw[hst];exact hw1) (by simp -dsimp only[go_sem,e1]) (by simp -dsimp only[go_sem,e3]) (by simp -dsimp only[go_sem,e4]) (by simp -dsimp only[go_sem,e5]) (by simp -dsimp only[go_sem,e7]) (by simp -dsimp only[go_sem,e16]) (by simp -dsimp only[go_sem,e17]) (by simp -dsimp only[go_sem,e19])
 have hi1:decide ((i:Int)<(M.length:Int))=true:=dcT (Int.ofNat_lt.2 hlt)
 rw[List.drop_eq_getElem_cons hlt,List.foldl_cons] at hst
 obtain ⟨pa,rfl,qa⟩:=qA (aO hlt)
 obtain ⟨wa,la,ta⟩:=qa i _ (gEl hlt)
 have la':=hM.keeps h' hx pa i wa rfl la
 have ta':TxV h' wa M[i]:=OwnZ.ext hx ta
 obtain ⟨w2,h2,hs2,x2,hL2⟩:=uy hw1 ta' hb' (by omega) (fun y hy=>lTr (hos1 y hy) (by decide)) (lTr (hMs _ (List.getElem_mem hlt)) (by decide))
 simp -dsimp only[go_sem,e16,e18,e20,hi1,kN hlt,la',Nat.zero_add,Nat.mul_one]
 refine ⟨_,h2,hs2,?_⟩
 simp -dsimp only[go_sem,e1,e3,e4,e5,e7,e17,e18,e19,e20,ah hlt (lTr hMl (by decide))]
 have h3:=jt o M[i]
 exact ⟨M.length - (i+1),by omega,i+1,bp o M[i],w2,hlt,rfl,hx.trans x2,hL2,by omega,fun z hz=>(jr hz).elim (hos1 z) (fun e=>by rw[e];exact hMs _ (List.getElem_mem hlt)),hst,rfl,rfl⟩
end
section
variable {r:Ro} {G:List ar} {Gv:Option Addr} {gc mb most cap:Nat} {made:List (List Tx)}
theorem xd {h:Hp} {M out:List Tx} {v w x1 x3 x4 x5 x7 x21 x24 x22:Value} (hM:LLV h v M) (hMl:M.length<=10000) (hol:out.length<=10000) (hMs:∀z∈M,z.length<=10000) (hos:∀z∈out,z.length<=10000)
  {a:Ev.A} {Q:Ex->Ev.A->Hp->Prop} (hn:a.n=184) (hb:h.base<=h.next) (hw:LLV h w out) (g1:a.get 1=x1) (g3:a.get 3=x3) (g4:a.get 4=x4) (g5:a.get 5=x5) (g7:a.get 7=x7) (g21:a.get 21=x21) (g23:a.get 23=w) (g24:a.get 24=x24) (g25:a.get 25=v) (g22:a.get 22=x22) (g26:a.get 26=.int .i64 0)
  (hq:∀(a1:Ev.A) (h1:Hp) (w1:Value),a1.n=184->Ext h h1->LLV h1 w1 (M.foldl bp out)->a1.get 1=x1->a1.get 3=x3->a1.get 4=x4->a1.get 5=x5->a1.get 7=x7->a1.get 21=x21->a1.get 23=w1->a1.get 24=x24->a1.get 22=x22->Q (.exit 9) a1 h1) :
  Th Tryz.prog (aw Tryz.f21 [1,0,1,0,1,1,1,1,1,1,1,1,1,0,1,1,0,1,0,0,1,0,1,1,1,0,1,0]) a h Q ⟨⟩ ⟨⟩:=by
 obtain ⟨A,rfl,hsA,qA⟩:=hM.at'
 simp only[aw,nav,Tryz.f21]
 refine au (n:=184) (by kernel_rfl) (fun m' a' h'=>∃(i:Nat) (o:List Tx) (w1:Value),i<=M.length/\m'=M.length - i/\Ext h h'/\LLV h' w1 o/\o.length<=out.length+i/\(∀z∈o,z.length<=10000)/\M.foldl bp out=(M.drop i).foldl bp o /\
  a'.get 1=x1/\a'.get 3=x3/\a'.get 4=x4/\a'.get 5=x5/\a'.get 7=x7/\a'.get 21=x21/\a'.get 23=w1/\a'.get 24=x24/\a'.get 25=.slice A M.length M.length/\a'.get 22=x22/\a'.get 26=.int .i64 (i:Int)) ?_ M.length _ _ hn ⟨0,out,w,lZr _,rfl,Ext.refl _,hw,lRf _,hos,rfl,g1,g3,g4,g5,g7,g21,g23,g24,g25,g22,g26⟩
 rintro m' a' h' hn' ⟨i,o,w1,hi,rfl,hx,hw1,hol1,hos1,hst,e1,e3,e4,e5,e7,e21,e23,e24,e25,e22,e26⟩
 have hb':h'.base<=h'.next:=by rw[hx.base];exact lTr hb hx.next
 by_cases hlt:i<M.length
 rotate_left
 ·have hi0:decide ((i:Int)<(M.length:Int))=false:=dcF (by omega)
  rw[List.drop_eq_nil_of_le (by omega),List.foldl_nil] at hst
  simp -dsimp only[go_sem,e25,e26,hi0]
  exact hq _ _ w1 (by simp -dsimp only[go_sem,hn']) hx (by rw[hst];exact hw1) (by simp -dsimp only[go_sem,e1]) (by simp -dsimp only[go_sem,e3]) (by simp -dsimp only[go_sem,e4]) (by simp -dsimp only[go_sem,e5]) (by simp -dsimp only[go_sem,e7]) (by simp -dsimp only[go_sem,e21]) (by simp -dsimp only[go_sem,e23]) (by simp -dsimp only[go_sem,e24]) (by simp -dsimp only[go_sem,e22])
 have hi1:decide ((i:Int)<(M.length:Int))=true:=dcT (Int.ofNat_lt.2 hlt)
 rw[List.drop_eq_getElem_cons hlt,List.foldl_cons] at hst
 obtain ⟨pa,rfl,qa⟩:=qA (aO hlt)
 obtain ⟨wa,la,ta⟩:=qa i _ (gEl hlt)
 have la':=hM.keeps h' hx pa i wa rfl la
 have ta':TxV h' wa M[i]:=OwnZ.ext hx ta
 obtain ⟨w2,h2,hs2,x2,hL2⟩:=uy hw1 ta' hb' (by omega) (fun y hy=>lTr (hos1 y hy) (by decide)) (lTr (hMs _ (List.getElem_mem hlt)) (by decide))
 simp -dsimp only[go_sem,e23,e25,e26,hi1,kN hlt,la',Nat.zero_add,Nat.mul_one]
 refine ⟨_,h2,hs2,?_⟩
 simp -dsimp only[go_sem,e1,e3,e4,e5,e7,e21,e24,e25,e22,e26,ah hlt (lTr hMl (by decide))]
 have h3:=jt o M[i]
 exact ⟨M.length - (i+1),by omega,i+1,bp o M[i],w2,hlt,rfl,hx.trans x2,hL2,by omega,fun z hz=>(jr hz).elim (hos1 z) (fun e=>by rw[e];exact hMs _ (List.getElem_mem hlt)),hst,rfl,rfl⟩
theorem xe {h:Hp} {l out:List Tx} {ok:Bool} {vl w x1 x5 x7:Value} (hl:LLV h vl l) (hfl:Fit most cap l) (hcap:cap<=1000) (hmost:most<=1000) (hfo:Fit most cap out) (hoc:ok=true->out.length<=cap)
  {a:Ev.A} {Q:Ex->Ev.A->Hp->Prop} (hn:a.n=184) (hb:h.base<=h.next) (hw:LLV h w out) (g1:a.get 1=x1) (g3:a.get 3=.int .i64 (most:Int)) (g4:a.get 4=.int .i64 (cap:Int)) (g5:a.get 5=x5) (g7:a.get 7=x7) (g21:a.get 21=vl) (g22:a.get 22=.bool ok) (g23:a.get 23=w) (g24:a.get 24=.int .i64 (-1))
  (hq:∀(a1:Ev.A) (h1:Hp) (w1:Value),a1.n=184->Ext h h1->LLV h1 w1 (fk most cap l (cap+3) (-1) (out,ok)).1->a1.get 22=.bool (fk most cap l (cap+3) (-1) (out,ok)).2->a1.get 23=w1->Q (.exit 7) a1 h1) :
  Th Tryz.prog (aw Tryz.f21 [1,0,1,0,1,1,1,1,1,1,1,1,1,0,1,1,0,1,0]) a h Q ⟨⟩ ⟨⟩:=by
 obtain ⟨X,hX⟩:∃X,fk most cap l (cap+3) (-1) (out,ok)=X:=⟨_,rfl⟩
 rw[hX] at hq
 simp only[aw,nav,Tryz.f21]
 refine au (n:=184) (by kernel_rfl) (fun m' a' h'=>∃(n:Int) (s:List Tx×Bool) (w1:Value),Ext h h'/\LLV h' w1 s.1/\Fit most cap s.1/\(s.2=true->s.1.length<=cap)/\X=fk most cap l m' n s/\n<=(s.1.length:Int)/\((cap:Int)+2<=(m':Int)+n) /\
  a'.get 1=x1/\a'.get 3=.int .i64 (most:Int)/\a'.get 4=.int .i64 (cap:Int)/\a'.get 5=x5/\a'.get 7=x7/\a'.get 21=vl/\a'.get 22=.bool s.2/\a'.get 23=w1/\a'.get 24=.int .i64 n) ?_ (cap+3) _ _ hn ⟨-1,(out,ok),w,Ext.refl _,hw,hfo,hoc,hX.symm,by omega,by omega,g1,g3,g4,g5,g7,g21,g22,g23,g24⟩
 rintro k a' h' hn' ⟨n,s,w1,hx,hw1,hfs,hsc,hst,hns,hkn,e1,e3,e4,e5,e7,e21,e22,e23,e24⟩
 have hb':h'.base<=h'.next:=by rw[hx.base];exact lTr hb hx.next
 obtain ⟨Aw,rfl,hAw,_⟩:=hw1.at'
 have stop:¬(n≠(s.1.length:Int)/\s.2=true)->fk most cap l k n s=s:=by
  intro c
  cases k with
  | zero=>rfl
  | succ k=>exact if_neg c
 by_cases hne:n=(s.1.length:Int)
 ·have k2:decide (n=(s.1.length:Int))=true:=dcT hne
  rw[stop (fun c=>c.1 hne)] at hst
  simp -dsimp only[go_sem,e23,e24,k2,Bool.not_true]
  exact hq _ _ _ (by simp -dsimp only[go_sem,hn']) hx (by rw[hst];exact hw1) (by simp -dsimp only[go_sem,e22,hst]) (by simp -dsimp only[go_sem,e23])
 have k2:decide (n=(s.1.length:Int))=false:=dcF hne
 cases hok:s.2 with
 | false =>
   rw[stop (fun c=>by rw[hok] at c;exact absurd c.2 (by simp))] at hst
   rw[hok] at e22
   simp -dsimp only[go_sem,e22,e23,e24,k2,Bool.not_false]
   exact hq _ _ _ (by simp -dsimp only[go_sem,hn']) hx (by rw[hst];exact hw1) (by simp -dsimp only[go_sem,e22,hst,hok]) (by simp -dsimp only[go_sem,e23])
 | true =>
   have hsl:=hsc hok
   obtain ⟨k',rfl⟩:∃k',k=k'+1:=⟨k - 1,by omega⟩
   rw[fk,if_pos ⟨hne,hok⟩] at hst
   rw[hok] at e22
   have f1:=hfs.1
   have f2:=hfl.1
   obtain ⟨w2,h2,hs2,x2,hL2,hJ2⟩:=sE (most:=most) (cap:=cap) hw1 (LLV.ext hx hl) hb' (by omega) (by omega) (fun z hz=>by have:=hfs.2 z hz;omega) (fun z hz=>by have:=hfl.2 z hz;omega) hcap hmost true
   rw[hok] at hst
   generalize aS most cap l s.1 ([],true)=J at hst hs2 hL2 hJ2
   have hb2:h2.base<=h2.next:=by rw[x2.base];exact lTr hb' x2.next
   have f3:=hJ2.len
   simp -dsimp only[go_sem,e1,e3,e4,e5,e7,e21,e22,e23,e24,k2,Bool.not_false]
   refine ⟨_,h2,hs2,?_⟩
   simp -dsimp only[go_sem,e1,e3,e4,e5,e7,e21,e22,e23,e24]
   refine xd (out:=s.1) (w:=.slice Aw s.1.length s.1.length) (x1:=x1) (x3:=.int .i64 (most:Int)) (x4:=.int .i64 (cap:Int)) (x5:=x5) (x7:=x7) (x21:=vl) (x24:=.int .i64 (s.1.length:Int)) (x22:=.bool J.2) hL2 (by omega) (by omega) (fun z hz=>by have:=hJ2.mem z hz;omega) (fun z hz=>by have:=hfs.2 z hz;omega) (by simp -dsimp only[go_sem,hn']) hb2 (LLV.ext x2 hw1) (by simp -dsimp only[go_sem,e1]) (by simp -dsimp only[go_sem,e3]) (by simp -dsimp only[go_sem,e4]) (by simp -dsimp only[go_sem,e5]) (by simp -dsimp only[go_sem,e7]) (by simp -dsimp only[go_sem,e21]) (by simp -dsimp only[go_sem,e23]) (by simp -dsimp only[go_sem]) (by simp -dsimp only[go_sem]) (by simp -dsimp only[go_sem]) (by simp -dsimp only[go_sem]) (fun a1 h3 w3 hn1 x3 hL3 q1 q3 q4 q5 q7 q21 q23 q24 q22 => ?_)
   obtain ⟨A3,rfl,hA3,_⟩:=hL3.at'
   have hfl3:=ju J.1 s.1
   have hsub:=lO J.1 s.1
   cases hj2:J.2 with
   | false =>
     rw[hj2] at q22 hst
     simp -dsimp only[go_sem,q1,q3,q4,q5,q7,q21,q22,q23,q24]
     refine ⟨k',lSs _,(s.1.length:Int),(J.1.foldl bp s.1,false),_,hx.trans (x2.trans x3),hL3,⟨by show (J.1.foldl bp s.1).length<=_;omega,fun z hz=>(fJ _ _ z hz).elim (hfs.2 z) (hJ2.mem z)⟩,fun c=>absurd (show false=true from c) (by simp),hst,by show (s.1.length:Int)<=((J.1.foldl bp s.1).length:Int);omega,by omega,?_⟩
     exact ⟨rfl,rfl,rfl⟩
   | true =>
     rw[hj2] at q22 hst
     have k3:decide (((J.1.foldl bp s.1).length:Int)<=(cap:Int))=decide ((J.1.foldl bp s.1).length<=cap):=decide_eq_decide.2 (by omega)
     simp -dsimp only[go_sem,q1,q3,q4,q5,q7,q21,q22,q23,q24,k3]
     refine ⟨k',lSs _,(s.1.length:Int),(J.1.foldl bp s.1,decide ((J.1.foldl bp s.1).length<=cap)),_,hx.trans (x2.trans x3),hL3,⟨by show (J.1.foldl bp s.1).length<=_;omega,fun z hz=>(fJ _ _ z hz).elim (hfs.2 z) (hJ2.mem z)⟩,fun c=>dcO c,hst,by show (s.1.length:Int)<=((J.1.foldl bp s.1).length:Int);omega,by omega,?_⟩
     exact ⟨rfl,rfl,rfl⟩
end
end Go.Ev.Z24
end
