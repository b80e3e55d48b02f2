/- The law MakesAll holds: for every grammar, rule and number, Makes answers with the document's lists in their order, where the document's answer speaks (at most 300 lists, of at most 6 items): part 5 of 6. -/
import Derived.Test.YtcnllhnhinmokaaGreatMA3
set_option linter.unusedVariables false
set_option linter.unusedSimpArgs false
set_option maxRecDepth 100000
set_option maxHeartbeats 16000000
section
namespace Go.Ev.Z24
open Go.RowKit Go.Proofs
section
variable {h h1 h2:Hp}
def fF (i q:Nat):Value:=.agg #[.int .i64 (i:Int),.int .i64 (q:Int)]
theorem k9 (a b:Nat):gr (a:Int) (b:Int)=decide (a=b):=by
 have h:gr (a:Int) (b:Int)=decide ((a:Int)=(b:Int)):=lF _ _
 rw[h,decide_eq_decide]
 omega
theorem Cq:∃i,Tryz.prog.info? 3=some i/\i.size=1:=by
 have h:=wY
 unfold aA at h
 cases hi:Tryz.prog.info? 3 with
 | none=>rw[hi] at h;cases h
 | some i=>rw[hi] at h;injection h with h;exact ⟨i,rfl,h⟩
theorem zo (h:Hp) (i q j p:Nat):eqv Tryz.prog h 40 115 (fF i q) (fF j p)=some (decide (i=j)&&decide (q=p)):=by
 obtain ⟨i3,e1,e2⟩:=Cq
 simp only[eqv,fF,Tryz.underlying115,e1,e2,part,Tryz.underlying3,fO,Nat.zero_mul,Nat.one_mul,gC0,gC1]
 simp only[k9]
 by_cases c1:i=j<;>by_cases c2:q=p<;>simp[c1,c2]
theorem kg (i q:Nat):cH Tryz.prog 40 115 (fF i q)=true:=by
 obtain ⟨i3,e1,e2⟩:=Cq
 simp only[cH,fF,Tryz.underlying115,e1,e2,part,Tryz.underlying3,Nat.zero_mul,Nat.one_mul,gC0,gC1,Bool.and_true]
abbrev fb:=List (Nat×Nat×Value)
def MemAt (h:Hp) (m:Nat) (l:fb):Prop:=m<h.next/\∃es n,h.objs.get m=some (.map es n)/\es.map (fun e=>(e.key,e.val))=l.map (fun x=>(fF x.1 x.2.1,x.2.2))
def iC:fb->Nat->Nat->Nat->Option (Nat×Value)
 | [],_,_,_=>none
 | (j,p,v)::l,i,q,k=>if i=j/\q=p then some (k,v) else iC l i q (k+1)
theorem lc (h:Hp) (i q:Nat):∀(l:fb) (es:List MapEntry) (k:Nat),es.map (fun e=>(e.key,e.val))=l.map (fun x=>(fF x.1 x.2.1,x.2.2))->fA Tryz.prog h 115 (fF i q) es k=some (iC l i q k)
 | [],[],k,_=>rfl
 | [],e::es,k,hh=>by simp at hh
 | x::l,[],k,hh=>by simp at hh
 | (j,p,v)::l,e::es,k,hh=>by
   simp only[List.map_cons,List.cons.injEq,Prod.mk.injEq] at hh
   obtain ⟨⟨h1,h2⟩,h3⟩:=hh
   simp only[fA,h1,zo,iC]
   by_cases c:i=j/\q=p
   ·rw[if_pos c,c.1,c.2]
    simp[h2]
   ·rw[if_neg c]
    have:(decide (i=j)&&decide (q=p))=false:=by
     rw[Bool.eq_false_iff]
     intro e
     rw[Bool.and_eq_true] at e
     exact c ⟨dcO e.1,dcO e.2⟩
    rw[this]
    exact lc h i q l es (k+1) h3
theorem lQ:∀(l:fb) (i q k:Nat) (x:Nat×Value),iC l i q k=some x->(i,q,x.2)∈l
 | (j,p,v)::l,i,q,k,x,hh=>by
   unfold iC at hh
   split at hh
   ·rename_i c
    injection hh with hh
    subst hh
    obtain ⟨rfl,rfl⟩:=c
    exact .head _
   ·exact .tail _ (lQ l i q (k+1) x hh)
theorem MemAt.extS {S:Nat->Prop} (x:ExtS S h h1) {m:Nat} {l:fb} (k:MemAt h m l) (hm:¬S m):MemAt h1 m l :=
 ⟨lTl k.1 x.next,by rw[x.objs m k.1 hm];exact k.2⟩
theorem MemAt.fr {B T:Nat->Prop} {FT:Nat->Nat} (x:Fr B T FT h h1) {m:Nat} {l:fb} (k:MemAt h m l) (hm:¬B m):MemAt h1 m l:=by
 obtain ⟨k1,es,n,k2,k3⟩:=k
 exact ⟨lTl k1 x.next,es,n,x.objs m _ k1 hm k2 (fun r c=>by cases c),k3⟩
theorem MemAt.lookup {m:Nat} {l:fb} {M et:TypeId} {z:Value} (hM:Tryz.prog.underlying M=some (.map 115 et)) (hz:bE Tryz.prog et=some z) (k:MemAt h m l) (i q:Nat):dR Tryz.prog h M (.map (some m)) (fF i q) true =
  some (match iC l i q 0 with|some x=>.tuple #[x.2,.bool true]|none=>.tuple #[z,.bool false]):=by
 obtain ⟨hm,es,n,ho,he⟩:=k
 have hmm:h.map? m=some (es,n):=by simp only[Hp.map?,ho]
 simp only[dR,hM,ef,hmm,kg,lc h i q l es 0 he]
 cases iC l i q 0 with
 | none=>simp only[hz,if_true]
 | some x=>simp only[if_true]
theorem MemAt.update {m:Nat} {l:fb} {M et:TypeId} (hM:Tryz.prog.underlying M=some (.map 115 et)) (k:MemAt h m l) (i q:Nat) (v:Value):∃o l',bF Tryz.prog h M (.map (some m)) (fF i q) v=some (h.put m o)/\MemAt (h.put m o) m l'/\∀x∈l',x∈l\/x=(i,q,v):=by
 obtain ⟨hm,es,n,ho,he⟩:=k
 have hmm:h.map? m=some (es,n):=by simp only[Hp.map?,ho]
 have hi:∀a:Nat,gr (a:Int) (a:Int)=true:=fun a=>by rw[k9];simp
 have hkd:fO .i64 .i64=true:=rfl
 have same:dS 40 (fF i q) (fF i q)=true:=by
  simp only[fF,dS,List.zip_cons_cons,List.zip_nil_right,List.all_cons,List.all_nil,hi,hkd,Bool.and_true]
  rfl
 cases hf:iC l i q 0 with
 | none =>
   refine ⟨.map (es++[⟨fF i q,v,n⟩]) (n+1),l++[(i,q,v)],?_,⟨hm,_,_,by rw[bJ,if_pos rfl],by simp[he]⟩,fun x hx => ?_⟩
   ·simp only[bF,hM,hmm,kg,lc h i q l es 0 he,hf]
   ·rcases List.mem_append.1 hx with hx|hx
    ·exact .inl hx
    ·simp at hx;exact .inr hx
 | some y =>
   obtain ⟨j,w⟩:=y
   have key:∀(l:fb) (es:List MapEntry) (k:Nat),es.map (fun e=>(e.key,e.val))=l.map (fun x=>(fF x.1 x.2.1,x.2.2))->∀j w,iC l i q k=some (j,w)->∃e,es[j - k]? = some e/\e.key=fF i q/\k<=j:=by
    intro l
    induction l with
    | nil=>intro es k he j v hf;cases hf
    | cons x l ih =>
      obtain ⟨i',q',v'⟩:=x
      intro es k he j v hf
      cases es with
      | nil=>simp at he
      | cons e es =>
        simp only[List.map_cons,List.cons.injEq,Prod.mk.injEq] at he
        obtain ⟨⟨e1,e2⟩,e3⟩:=he
        unfold iC at hf
        split at hf
        ·rename_i c
         injection hf with hf
         injection hf with hf1 hf2
         subst hf1
         obtain ⟨rfl,rfl⟩:=c
         exact ⟨e,by simp,e1,lRf _⟩
        ·obtain ⟨e',h1,h2,h3⟩:=ih es (k+1) e3 j v hf
         refine ⟨e',?_,h2,by omega⟩
         rw[show j - k=(j - (k+1))+1 by omega]
         simpa using h1
   obtain ⟨e,h1,h2,_⟩:=key l es 0 he j w hf
   have h1:es[j]? = some e:=by simpa using h1
   refine ⟨.map (setAt (fun e=>{ e with key:=fF i q,val:=v }) es j) n,l.set j (i,q,v),?_,⟨hm,_,_,by rw[bJ,if_pos rfl],?_⟩,fun x hx => ?_⟩
   ·simp only[bF,hM,hmm,kg,lc h i q l es 0 he,hf,h1,h2,same]
   ·have sm:∀(es:List MapEntry) (i':Nat),(setAt (fun e=>{ e with key:=fF i q,val:=v }) es i').map (fun e=>(e.key,e.val))=(es.map (fun e=>(e.key,e.val))).set i' (fF i q,v):=by
     intro es
     induction es with
     | nil=>intro i';simp[setAt]
     | cons e es ih=>intro i';cases i'<;>simp[setAt,ih]
    rw[sm,he,List.map_set]
   ·rcases List.mem_or_eq_of_mem_set hx with hx|hx
    ·exact .inl hx
    ·exact .inr hx
end
section
section
variable {R:ByteArray->Tx->Prop}
def Aq (R:ByteArray->Tx->Prop) (p:ad) (n:Nat):Prop:=∃w:Tx,w.length=n/\mkM R p w
theorem sY {d t:ByteArray} {l:List ad} (hd:d.data.toList=[105,115]) (w:Tx):mkM R ⟨d,t,l⟩ w<->w=[t]:=by rw[mkM,if_pos hd]
theorem ga {d t:ByteArray} {l:List ad} (hd:d.data.toList=[110,111,116,104,105,110,103]) (w:Tx):mkM R ⟨d,t,l⟩ w<->w=[]:=by
 rw[mkM,if_neg (by rw[hd];decide),if_neg (by rw[hd];decide),if_neg (by rw[hd];decide),if_neg (by rw[hd];decide),if_neg (by rw[hd];decide),if_neg (by rw[hd];decide)]
theorem jB {d t:ByteArray} {l:List ad} (hd:d.data.toList=[114,117,108,101]) (w:Tx):mkM R ⟨d,t,l⟩ w<->R t w:=by rw[mkM,if_neg (by rw[hd];decide),if_pos hd]
theorem kh {d t:ByteArray} {l:List ad} (hd:d.data.toList=[115,101,113]) (w:Tx):mkM R ⟨d,t,l⟩ w<->mkS R l w:=by rw[mkM,if_neg (by rw[hd];decide),if_neg (by rw[hd];decide),if_pos hd]
theorem lR {d t:ByteArray} {x y:ad} {l:List ad} (hd:d.data.toList=[115,101,113]) (w:Tx):mkM R ⟨d,t,x::y::l⟩ w<->∃u v,w=u++v/\mkM R x u/\mkM R ⟨dx,noT,y::l⟩ v:=by
 rw[kh hd,mkS]
 constructor
 ·rintro ⟨u,v,e,h1,h2⟩
  exact ⟨u,v,e,h1,(kh rfl v).2 h2⟩
 ·rintro ⟨u,v,e,h1,h2⟩
  exact ⟨u,v,e,h1,(kh rfl v).1 h2⟩
theorem xk {P:Tx->Prop} {w:Tx}:Star P w<->w=[]\/∃u v,u≠[]/\w=u++v/\P u/\Star P v:=by
 constructor
 ·rintro ⟨ws,h,rfl⟩
  induction ws with
  | nil=>exact .inl rfl
  | cons x ws ih =>
    by_cases hx:x=[]
    ·subst hx
     simpa using ih (fun u hu=>h u (.tail _ hu))
    ·right
     exact ⟨x,ws.flatten,hx,by simp,h x (.head _),ws,fun u hu=>h u (.tail _ hu),rfl⟩
 ·rintro (rfl|⟨u,v,_,rfl,h1,ws,h2,rfl⟩)
  ·exact Star.nil
  ·exact ⟨u::ws,fun z hz=>by
    rcases mCo.1 hz with e|hz
    ·rw[e];exact h1
    ·exact h2 z hz,by simp⟩
theorem eL {d t:ByteArray} {x:ad} (hd:d.data.toList=[109,97,110,121]) (w:Tx):mkM R ⟨d,t,[x]⟩ w<->w=[]\/∃u v,u≠[]/\w=u++v/\mkM R x u/\mkM R ⟨d,t,[x]⟩ v:=by
 have e:∀w,mkM R ⟨d,t,[x]⟩ w<->Star (fun u=>mkM R x u) w:=by
  intro w
  rw[mkM,if_neg (by rw[hd];decide),if_neg (by rw[hd];decide),if_neg (by rw[hd];decide),if_neg (by rw[hd];decide),if_neg (by rw[hd];decide),if_pos hd,mkH]
 rw[e,xk]
 simp only[e]
theorem rE:∀(l:List ad) (w:Tx),mkO R l w<->∃x∈l,mkM R x w
 | [],w=>by rw[mkO];simp
 | x::l,w=>by rw[mkO,rE l w];simp
theorem qk {d t:ByteArray} {l:List ad} (hd:d.data.toList=[111,114]) (w:Tx):mkM R ⟨d,t,l⟩ w<->∃x∈l,mkM R x w:=by
 rw[mkM,if_neg (by rw[hd];decide),if_neg (by rw[hd];decide),if_neg (by rw[hd];decide),if_pos hd,rE]
theorem lS {d t:ByteArray} {l:List ad} (hd:d.data.toList=[111,112,116]) (w:Tx):mkM R ⟨d,t,l⟩ w<->w=[]\/∃x∈l,mkM R x w:=by
 rw[mkM,if_neg (by rw[hd];decide),if_neg (by rw[hd];decide),if_neg (by rw[hd];decide),if_neg (by rw[hd];decide),if_pos hd,rE]
theorem ng {d t:ByteArray} {x:ad} (hd:d.data.toList=[115,101,113]) (w:Tx):mkM R ⟨d,t,[x]⟩ w<->mkM R x w:=by
 rw[kh hd,mkS]
 constructor
 ·rintro ⟨u,v,e,h1,h2⟩
  rw[mkS] at h2
  subst h2
  rw[List.append_nil] at e
  rw[e];exact h1
 ·intro h
  exact ⟨w,[],by simp,h,by rw[mkS]⟩
end
variable {r:Ro} {h h1 h2:Hp} {n0 f0 mb bk m eb sm tm:Nat} {FT:Nat->Nat} {Gv lv rv xr xl:Value} {tbl:Tbl} {G:List ar} {em:List Bool} {rks:List Nat}
structure MkR (r:Ro) (G:List ar) (h:Hp) (n0 f0:Nat) (FT:Nat->Nat) (mb bk m eb:Nat) (em:List Bool) (Gv lv rv xr xl:Value) (sm tm:Nat) (tbl:Tbl) (rks:List Nat):Prop where
 own:h.own mb 73 (cL bk lv rv xr (.map (some sm)) (.map (some tm)) (.bool false) xl)
 tab:Tab r h n0 f0 FT lv rv tbl
 rule:SlL 1 3 99 h n0 f0 FT xr (fZ rks)
 book:Book h bk m eb Gv (nms G) em
 ms:m≠sm
 mt:m≠tm
 st:sm≠tm
 rl:rks.length=G.length
 num:∀(i:Nat) (x:ar),G[i]? = some x->∃k,rks[i]? = some k/\Num tbl k x.body
def IsMap (h:Hp) (b:Nat):Prop:=b<h.next/\∃es n,h.objs.get b=some (.map es n)
theorem MemAt.isMap {l:fb} (k:MemAt h sm l):IsMap h sm:=⟨k.1,k.2.elim fun es q=>q.elim fun n q=>⟨es,n,q.1⟩⟩
theorem IsMap.row {b f:Nat} {e:TypeId} {cs:List Value} (k:IsMap h b) (k':bX e h b cs f):False:=by
 obtain ⟨_,es,n,k⟩:=k
 obtain ⟨r,h1,_⟩:=je k'
 rw[k] at h1
 cases h1
theorem IsMap.own {b:Nat} {e:TypeId} {cs:List Value} (k:IsMap h b) (k':h.own b e cs):False:=k.row (b8 k')
theorem MkR.keepS {S:Nat->Prop} (k:MkR r G h n0 f0 FT mb bk m eb em Gv lv rv xr xl sm tm tbl rks) (x:ExtS S h h1) (hS:∀b,S b->b=sm\/b=tm) (i1:IsMap h sm) (i2:IsMap h tm):MkR r G h1 n0 f0 FT mb bk m eb em Gv lv rv xr xl sm tm tbl rks:=by
 have hrow:∀b e cs f,bX e h b cs f->¬S b:=by
  intro b e cs f q c
  rcases hS b c with c|c
  ·rw[c] at q;exact i1.row q
  ·rw[c] at q;exact i2.row q
 have hown:∀b e cs,h.own b e cs->¬S b:=fun b e cs q=>hrow b e cs 0 (b8 q)
 have F:Fr S (fun _=>False) FT h h1:=Fr.ofS x (fun b c=>c)
 refine ⟨aJ x k.own (hown _ _ _ k.own),k.tab.keep F (Agree.refl _) (fun b e cs f q _ _=>hrow b e cs f q) (fun c=>c) (fun c=>c) (fun _ _ _ _ _ c=>c),d9 F (Agree.refl _) k.rule (fun b cs f q _=>hrow b 3 cs f q) (fun c=>c),k.book.extS x (hown _ _ _ k.book.own) (fun c => ?_) (hown _ _ _ k.book.row),k.ms,k.mt,k.st,k.rl,k.num⟩
 rcases hS _ c with c|c
 ·exact k.ms c
 ·exact k.mt c
def fz (k:Nat) (p:ad) (ks:List Nat):Value :=
 if p.d.data.toList=[109,97,110,121] then .tuple #[.int .i64 ((ks.headD 0:Nat):Int),.int .i64 (k:Int),.bool true]
 else if p.d.data.toList=[115,101,113]/\1<p.l.length then .tuple #[.int .i64 ((ks.headD 0:Nat):Int),.int .i64 ((ks.getD 1 0:Nat):Int),.bool true]
 else .tuple #[.int .i64 0,.int .i64 0,.bool false]
theorem fg (K:MkR r G h n0 f0 FT mb bk m eb em Gv lv rv xr xl sm tm tbl rks) (hb:h.base<=h.next) {k:Nat} {p:ad} {ks:List Nat} (hk:tbl[k]? = some (p,ks)) (hkm:p.d.data.toList=[109,97,110,121]->ks≠[]) (hks:p.d.data.toList=[115,101,113]->1<p.l.length->1<ks.length) :
  ∃v h1,Snd Tryz.prog 45 [.pointer (some ⟨mb,0,none⟩),.int .i64 (k:Int)] h v h1/\v=fz k p ks/\Ext h h1:=by
 obtain ⟨b,b2,n,n2,kv0,cs,e1,e2,e3,e4,hp,hl,_,_⟩:=K.tab.get hk
 obtain ⟨Av,c,hcs⟩:=hp.shape
 have hlt:k<tbl.length:=(List.getElem?_eq_some_iff.1 hk).1
 refine aL wf Tryz.func45 rfl rfl (n:=57) rfl (by kernel_rfl) rfl ?_
 intro a hn hg
 have hr:Tryz.f45.results.toList=[.tmp 4,.tmp 5,.tmp 6]:=rfl
 have g0:=hg 0
 have g1:=hg 1
 clear hg
 simp only[gC0,gC1] at g0 g1
 have m1:h.load ⟨mb,1,none⟩=some lv:=by rw[aa K.own];rfl
 have ik:ap Tryz.prog 46 lv (.int .i64 (k:Int))=some (.pointer (some ⟨b,k*3,none⟩)):=by
  have:=oz (b:=b) (o:=0) (n:=n) (c:=n) (i:=k) (by omega)
  rw[e1]
  rwa[Nat.zero_add] at this
 have hw0:=an hb 48 [.string ⟨#[]⟩,.string ⟨#[]⟩,.slice none 0 0]
 have hx0:=Ext.new h (ak.cells ⟨[.string ⟨#[]⟩,.string ⟨#[]⟩,.slice none 0 0],48,0,0,false⟩)
 have hst:=aE (o:=0) (vs:=cs) (c1:=cs) hw0 (by rw[hcs];rfl) (by rw[hcs];rfl) (by rw[hcs];simp)
 have hx1:=hx0.put (b:=h.next) (lRf _) (ak.cells { c:=cs,e:=48,fam:=0,base:=0,grown:=false })
 have hP1:=av hw0 cs
 generalize hhA:(h.newH (ak.cells ⟨[.string ⟨#[]⟩,.string ⟨#[]⟩,.slice none 0 0],48,0,0,false⟩)).put h.next (ak.cells { c:=cs,e:=48,fam:=0,base:=0,grown:=false })=hA at hst hx1 hP1
 rw[hcs] at hst hP1 hl
 have K1:=aj hx1 K.own
 have m2:hA.load ⟨mb,2,none⟩=some rv:=by rw[aa K1];rfl
 have ik2:ap Tryz.prog 70 rv (.int .i64 (k:Int))=some (.pointer (some ⟨b2,k,none⟩)):=by
  have:=pO (b:=b2) (o:=0) (n:=n2) (c:=n2) (i:=k) (by omega)
  rw[e2]
  rwa[Nat.zero_add] at this
 have hT1:=K.tab.keep (B:=fun _=>False) (T:=fun _=>False) (Fr.of hx1) (Agree.refl _) (fun _ _ _ _ _ _ _ c=>c) (fun c=>c) (fun c=>c) (fun _ _ _ _ _ c=>c)
 obtain ⟨b',b2',n',n2',kv,_,e1',e2',_,_,_,_,hkv,hkid⟩:=hT1.get hk
 have e2b:b2'=b2:=by rw[e2] at e2';injection e2' with q;injection q with q;injection q with q;exact q.symm
 subst e2b
 obtain ⟨Ak,eA,hsA,hkl⟩:=hkid.len
 subst eA
 have l0:hA.load ⟨h.next,0,none⟩=some (.string p.d):=by rw[aa hP1];rfl
 have l2:hA.load ⟨h.next,2,none⟩=some (.slice Av p.l.length c):=by rw[aa hP1];rfl
 unfold fz
 by_cases c1:p.d.data.toList=[109,97,110,121]
 ·have cc:decide (p.d.data.toList=[109,97,110,121])=true:=dcT c1
  have hne:=hkm c1
  obtain ⟨k0,ks',rfl⟩:∃k0 ks',ks=k0::ks':=by
   cases ks with
   | nil=>exact absurd rfl hne
   | cons x y=>exact ⟨x,y,rfl⟩
  obtain ⟨bb,rfl,lk⟩:=hkl 0 k0 rfl
  generalize hN:(k0::ks').length=N at *
  have hN0:0<N:=by rw[<-hN];simp
  have ik3:ap Tryz.prog 71 (.slice (some ⟨bb,0,none⟩) N N) (.int .i64 0)=some (.pointer (some ⟨bb,0,none⟩)):=by
   have:=mB (b:=bb) (o:=0) (n:=N) (c:=N) (i:=0) hN0
   rwa[Nat.zero_add] at this
  rw[if_pos c1]
  simp -dsimp only[go_sem,g0,g1,m1,ik,hl,hst,l0,cc,m2,ik2,hkv,ik3,lk]
  rw[hr]
  simp -dsimp only[go_sem,g0,g1]
  exact ⟨rfl,hx1⟩
 ·have cc:decide (p.d.data.toList=[109,97,110,121])=false:=dcF c1
  rw[if_neg c1]
  by_cases c2:p.d.data.toList=[115,101,113]
  ·have cd:decide (p.d.data.toList=[115,101,113])=true:=dcT c2
   by_cases c3:1<p.l.length
   ·obtain ⟨k0,k1,ks',rfl⟩:∃k0 k1 ks',ks=k0::k1::ks':=by
     have:=hks c2 c3
     match ks,this with
     | x::y::z,_=>exact ⟨x,y,z,rfl⟩
    obtain ⟨bb,rfl,lk⟩:=hkl 0 k0 rfl
    obtain ⟨bb',q1,lk1⟩:=hkl 1 k1 rfl
    injection q1 with q1
    injection q1 with q1
    subst q1
    generalize hN:(k0::k1::ks').length=N at *
    have hN0:1<N:=by rw[<-hN];simp
    have ik3:ap Tryz.prog 71 (.slice (some ⟨bb,0,none⟩) N N) (.int .i64 0)=some (.pointer (some ⟨bb,0,none⟩)):=by
     have:=mB (b:=bb) (o:=0) (n:=N) (c:=N) (i:=0) (by omega)
     rwa[Nat.zero_add] at this
    have ik4:ap Tryz.prog 71 (.slice (some ⟨bb,0,none⟩) N N) (.int .i64 1)=some (.pointer (some ⟨bb,1,none⟩)):=by
     have:=mB (b:=bb) (o:=0) (n:=N) (c:=N) (i:=1) hN0
     rwa[Nat.zero_add] at this
    have gt:decide ((1:Int)<(p.l.length:Int))=true:=dcT (by omega)
    have s1:aB 9 rv rv=true:=by rw[e2];simp[aB]
    have s2:aB 9 (.slice (some ⟨bb,0,none⟩) N N) (.slice (some ⟨bb,0,none⟩) N N)=true:=by simp[aB]
    rw[if_pos ⟨c2,c3⟩]
    simp -dsimp only[go_sem,g0,g1,m1,ik,hl,hst,l0,cc,cd,l2,gt]
    refine aD (n:=57) [[],[0],[0,1],[0,1,2],[],[0,1,2,3,4],[0,1,2,3,4,5],[0,1,2,3,4,5,6],[0,1,2,3,4,5,6,7],[],[9],[9,10],[9,10,11],[],[9,10,11,12,13],[9,10,11,12,13,14],[9,10,11,12,13,14,15],[9,10,11,12,13,14,15,16],[0,1,2,3,4,5,6,7,8],[0,1,2,3,4,5,6,7,8,9,10,11,12,13,14,15,16,17,18],[0,1,2,3,4,5,6,7,8,9,10,11,12,13,14,15,16,17,18,19]] (by simp -dsimp only[go_sem,hn]) (ao (by kernel_rfl)) ?_
    simp -dsimp only[go_sem,g0,g1,m2,ik2,hkv,ik3,ik4,lk,lk1,s1,s2]
    rw[hr]
    simp -dsimp only[go_sem,g0,g1]
    exact ⟨rfl,hx1⟩
   ·have gt:decide ((1:Int)<(p.l.length:Int))=false:=dcF (by omega)
    rw[if_neg (fun q=>c3 q.2)]
    simp -dsimp only[go_sem,g0,g1,m1,ik,hl,hst,l0,cc,cd,l2,gt]
    rw[hr]
    simp -dsimp only[go_sem,g0,g1]
    exact hx1
  ·have cd:decide (p.d.data.toList=[115,101,113])=false:=dcF c2
   rw[if_neg (fun q=>c2 q.1)]
   simp -dsimp only[go_sem,g0,g1,m1,ik,hl,hst,l0,cc,cd]
   rw[hr]
   simp -dsimp only[go_sem,g0,g1]
   exact hx1
end
section
variable {R:ByteArray->Tx->Prop} {S:Nat->Prop} {ix:ByteArray->Nat} {em:ByteArray->Bool}
mutual
theorem zp:∀(p:ad) (s:ByteArray),plP S ix p->stM em p s->S (ix s)
 | ⟨d,t,l⟩,s,hp,h=>by
   rw[plP] at hp
   rw[stM] at h
   rcases h with ⟨h1,rfl⟩|h
   ·exact hp.2.1 h1
   ·exact Cr _ l s hp.2.2 h
theorem Cr (sq:Bool):∀(l:List ad) (s:ByteArray),plL S ix l->stL em sq l s->S (ix s)
 | [],s,hp,h=>by rw[stL] at h;exact h.elim
 | x::l,s,hp,h=>by
   rw[plL] at hp
   rw[stL] at h
   rcases h with h|h
   ·exact zp x s hp.1 h
   ·exact Cr sq l s hp.2 h.2
end
theorem vF:∀(l:List ad) (x:ad) (s:ByteArray),x∈l->stM em x s->stL em false l s
 | y::l,x,s,hx,h=>by
   rw[stL]
   rcases mCo.1 hx with e|hx
   ·subst e;exact .inl h
   ·exact .inr ⟨rfl,vF l x s hx h⟩
theorem iu:∀(l:List ad) (x:ad),x∈l->plL S ix l->plP S ix x
 | y::l,x,hx,h=>by
   rw[plL] at h
   rcases mCo.1 hx with e|hx
   ·subst e;exact h.1
   ·exact iu l x hx h.2
theorem gd {nm:List ByteArray} {l:List ad} (h:b6 nm l=true):∀x∈l,ay nm x=true:=by
 induction l with
 | nil=>intro x hx;cases hx
 | cons y l ih =>
   obtain ⟨h1,h2⟩:=fm h
   intro x hx
   rcases mCo.1 hx with e|hx
   ·rw[e];exact h1
   ·exact ih h2 x hx
theorem DO {d t:ByteArray} {l:List ad} (hd:d.data.toList=[105,115]) (n:Nat):Aq R ⟨d,t,l⟩ n<->n=1:=by
 constructor
 ·rintro ⟨w,h1,h2⟩
  rw[(sY hd w).1 h2] at h1
  exact h1.symm
 ·rintro rfl
  exact ⟨[t],rfl,(sY hd _).2 rfl⟩
theorem uK {d t:ByteArray} {l:List ad} (hd:d.data.toList=[110,111,116,104,105,110,103]) (n:Nat):Aq R ⟨d,t,l⟩ n<->n=0:=by
 constructor
 ·rintro ⟨w,h1,h2⟩
  rw[(ga hd w).1 h2] at h1
  exact h1.symm
 ·rintro rfl
  exact ⟨[],rfl,(ga hd _).2 rfl⟩
theorem zq {d t:ByteArray} {x y:ad} {l:List ad} (hd:d.data.toList=[115,101,113]) (n:Nat):Aq R ⟨d,t,x::y::l⟩ n<->∃j,j<n+1/\Aq R x j/\Aq R ⟨dx,noT,y::l⟩ (n - j):=by
 constructor
 ·rintro ⟨w,h1,h2⟩
  obtain ⟨u,v,rfl,h3,h4⟩:=(lR hd w).1 h2
  rw[List.length_append] at h1
  exact ⟨u.length,by omega,⟨u,rfl,h3⟩,⟨v,by omega,h4⟩⟩
 ·rintro ⟨j,hj,⟨u,h1,h2⟩,⟨v,h3,h4⟩⟩
  exact ⟨u++v,by rw[List.length_append];omega,(lR hd _).2 ⟨u,v,rfl,h2,h4⟩⟩
theorem vG {d t:ByteArray} {x:ad} (hd:d.data.toList=[109,97,110,121]) (n:Nat):Aq R ⟨d,t,[x]⟩ n<->n=0\/∃j,j<n+1/\0<j/\Aq R x j/\Aq R ⟨d,t,[x]⟩ (n - j):=by
 constructor
 ·rintro ⟨w,h1,h2⟩
  rcases (eL hd w).1 h2 with rfl|⟨u,v,hu,rfl,h3,h4⟩
  ·exact .inl h1.symm
  ·rw[List.length_append] at h1
   exact .inr ⟨u.length,by omega,List.length_pos_iff.2 hu,⟨u,rfl,h3⟩,⟨v,by omega,h4⟩⟩
 ·rintro (rfl|⟨j,hj,h0,⟨u,h1,h2⟩,⟨v,h3,h4⟩⟩)
  ·exact ⟨[],rfl,(eL hd _).2 (.inl rfl)⟩
  ·exact ⟨u++v,by rw[List.length_append];omega,(eL hd _).2 (.inr ⟨u,v,List.length_pos_iff.1 (by omega),rfl,h2,h4⟩)⟩
def oY (p:ad):Prop:=p.d.data.toList=[111,114]\/p.d.data.toList=[111,112,116]\/(p.d.data.toList=[115,101,113]/\p.l.length=1)
theorem vH {p:ad} (hp:oY p) (n:Nat):Aq R p n<->(n=0/\p.d.data.toList=[111,112,116])\/∃x∈p.l,Aq R x n:=by
 obtain ⟨d,t,l⟩:=p
 rcases hp with hd|hd|⟨hd,hl⟩
 ·have hd:d.data.toList=[111,114]:=hd
  have no:¬d.data.toList=[111,112,116]:=by rw[hd];decide
  constructor
  ·rintro ⟨w,h1,h2⟩
   obtain ⟨x,hx,h⟩:=(qk hd w).1 h2
   exact .inr ⟨x,hx,w,h1,h⟩
  ·rintro (⟨_,h⟩|⟨x,hx,w,h1,h2⟩)
   ·exact absurd h no
   ·exact ⟨w,h1,(qk hd w).2 ⟨x,hx,h2⟩⟩
 ·have hd:d.data.toList=[111,112,116]:=hd
  constructor
  ·rintro ⟨w,h1,h2⟩
   rcases (lS hd w).1 h2 with rfl|⟨x,hx,h⟩
   ·exact .inl ⟨h1.symm,hd⟩
   ·exact .inr ⟨x,hx,w,h1,h⟩
  ·rintro (⟨h,_⟩|⟨x,hx,w,h1,h2⟩)
   ·exact ⟨[],h.symm,(lS hd _).2 (.inl rfl)⟩
   ·exact ⟨w,h1,(lS hd w).2 (.inr ⟨x,hx,h2⟩)⟩
 ·have hd:d.data.toList=[115,101,113]:=hd
  have no:¬d.data.toList=[111,112,116]:=by rw[hd];decide
  obtain ⟨x,rfl⟩:∃x,l=[x]:=List.length_eq_one_iff.1 hl
  constructor
  ·rintro ⟨w,h1,h2⟩
   exact .inr ⟨x,.head _,w,h1,(ng hd w).1 h2⟩
  ·rintro (⟨_,h⟩|⟨y,hx,w,h1,h2⟩)
   ·exact absurd h no
   ·have hx:y∈[x]:=hx
    rw[List.mem_singleton] at hx
    subst hx
    exact ⟨w,h1,(ng hd w).2 h2⟩
theorem zr {nm:List ByteArray} {d t:ByteArray} {l:List ad} (hr:ay nm ⟨d,t,l⟩=true) (hp:plP S ix ⟨d,t,l⟩) :
  d.data.toList=[105,115]\/(d.data.toList=[114,117,108,101]/\ae nm t<nm.length)\/d.data.toList=[110,111,116,104,105,110,103]\/(d.data.toList=[115,101,113]/\∃x y l',l=x::y::l')\/(d.data.toList=[109,97,110,121]/\∃x,l=[x])\/oY ⟨d,t,l⟩:=by
 rw[plP] at hp
 rw[ay,Bool.and_eq_true] at hr
 have hk:=hr.2
 unfold aU at hk
 by_cases c1:d.data.toList=[105,115]
 ·exact .inl c1
 rw[if_neg c1] at hk
 by_cases c2:d.data.toList=[114,117,108,101]
 ·rw[if_pos c2,Bool.and_eq_true] at hk
  exact .inr (.inl ⟨c2,dcO hk.2⟩)
 rw[if_neg c2] at hk
 split at hk
 ·cases hk
 by_cases c3:d.data.toList=[97,110,121]\/d.data.toList=[110,111,116,104,105,110,103]
 ·rcases c3 with c3|c3
  ·exact absurd (.inl c3) hp.1
  ·exact .inr (.inr (.inl c3))
 rw[if_neg c3] at hk
 by_cases c4:d.data.toList=[115,101,113]\/d.data.toList=[111,114]
 ·rw[if_pos c4] at hk
  have hk:=dcO hk
  rcases c4 with c4|c4
  ·match l,hk with
   | [x],_=>exact .inr (.inr (.inr (.inr (.inr (.inr (.inr ⟨c4,rfl⟩))))))
   | x::y::l',_=>exact .inr (.inr (.inr (.inl ⟨c4,x,y,l',rfl⟩)))
  ·exact .inr (.inr (.inr (.inr (.inr (.inl c4)))))
 rw[if_neg c4] at hk
 split at hk
 ·rename_i c5
  have hk:=dcO hk
  rcases c5 with c5|c5|c5
  ·obtain ⟨x,rfl⟩:=List.length_eq_one_iff.1 hk
   exact .inr (.inr (.inr (.inr (.inl ⟨c5,x,rfl⟩))))
  ·exact .inr (.inr (.inr (.inr (.inr (.inr (.inl c5))))))
  ·exact absurd (.inr c5) hp.1
 ·cases hk
theorem gf {nm:List ByteArray} {y:ad} {l:List ad} (h:b6 nm (y::l)=true):ay nm ⟨dx,noT,y::l⟩=true:=by
 rw[ay,Bool.and_eq_true]
 refine ⟨h,?_⟩
 unfold aU
 rw[if_neg (by decide),if_neg (by decide),if_neg (by decide),if_neg (by decide),if_pos (by decide)]
 exact dcT (by simp)
theorem lh {y:ad} {l:List ad} (h:plL S ix (y::l)):plP S ix ⟨dx,noT,y::l⟩:=by
 rw[plP]
 exact ⟨by decide,fun c=>absurd c (by decide),h⟩
theorem iv {nm:List ByteArray} {d t:ByteArray} {l:List ad} (h:ay nm ⟨d,t,l⟩=true):b6 nm l=true:=by
 rw[ay,Bool.and_eq_true] at h
 exact h.1
theorem li {d t:ByteArray} {l:List ad} (h:plP S ix ⟨d,t,l⟩):plL S ix l:=by
 rw[plP] at h
 exact h.2.2
end
section
variable {r:Ro} {h h1 h2:Hp} {n0 f0 mb bk m eb sm tm:Nat} {FT:Nat->Nat} {Gv lv rv xr xl:Value} {tbl:Tbl} {G:List ar} {em:List Bool} {rks:List Nat} {R:ByteArray->Tx->Prop}
theorem zt (k n:Nat):d3 Tryz.prog 115 [(0,.int .i64 (k:Int)),(1,.int .i64 (n:Int))]=some (fF k n):=by
 unfold d3
 rw[DD]
 simp only[Tryz.underlying115,wY]
 rfl
theorem b5 (h:Hp) (a:Addr):aV Tryz.prog h 115 a=match h.loads a 2 with|some l=>some (.agg l.toArray)|none=>none:=by
 have h:=yU
 unfold aA at h
 unfold aV
 rw[Tryz.underlying115]
 cases hi:Tryz.prog.info? 115 with
 | none=>rw[hi] at h;cases h
 | some i=>rw[hi] at h;injection h with h;simp only[h];split<;>simp_all
theorem zu:Tryz.prog.underlying 67=some (.map 115 4):=Tryz.underlying67
def dE (R:ByteArray->Tx->Prop) (tbl:Tbl) (l:fb):Prop:=∀(k n:Nat) (v:Value) (p:ad),(k,n,v)∈l->Num tbl k p->∃b:Bool,v=.bool b/\(b=true<->Aq R p n)
theorem Num.one {k:Nat} {p q:ad} (h1:Num tbl k p) (h2:Num tbl k q):p=q:=by
 obtain ⟨_,e1⟩:=h1.get
 obtain ⟨_,e2⟩:=h2.get
 rw[e1] at e2
 injection e2 with e2
 exact congrArg Prod.fst e2
def gm (R:ByteArray->Tx->Prop) (r:Ro) (G:List ar) (n0 f0:Nat) (FT:Nat->Nat) (mb bk m eb:Nat) (em:List Bool) (Gv lv rv xr xl:Value) (sm tm:Nat) (tbl:Tbl) (rks:List Nat) (n k:Nat) (p:ad):Prop :=
 ∀(h:Hp) (l:fb),MkR r G h n0 f0 FT mb bk m eb em Gv lv rv xr xl sm tm tbl rks->h.base<=h.next->MemAt h sm l->dE R tbl l->IsMap h tm ->
  ∃(v:Value) (h1:Hp),Snd Tryz.prog 27 [.pointer (some ⟨mb,0,none⟩),.int .i64 (k:Int),.int .i64 (n:Int)] h v h1/\∃(b:Bool) (l1:fb),v=.bool b/\(b=true<->Aq R p n)/\ExtS (aR sm) h h1/\MemAt h1 sm l1/\dE R tbl l1
theorem IsMap.extS {S:Nat->Prop} {b:Nat} (k:IsMap h b) (x:ExtS S h h1) (hb:¬S b):IsMap h1 b:=by
 obtain ⟨hlt,es,n,k⟩:=k
 exact ⟨lTl hlt x.next,es,n,by rw[x.objs b hlt hb];exact k⟩
theorem MkR.keepO (k:MkR r G h n0 f0 FT mb bk m eb em Gv lv rv xr xl sm tm tbl rks) (x:ExtS (aR sm) h h1) {l:fb} (i1:MemAt h sm l) (i2:IsMap h tm):MkR r G h1 n0 f0 FT mb bk m eb em Gv lv rv xr xl sm tm tbl rks/\IsMap h1 tm :=
 ⟨k.keepS x (fun b c=>.inl c) i1.isMap i2,i2.extS x (fun c=>k.st c.symm)⟩
theorem _root_.Go.Ev.ExtS.bn {S:Nat->Prop} (x:ExtS S h h1) (hb:h.base<=h.next):h1.base<=h1.next:=by rw[x.base];exact lTr hb x.next
theorem iw {n ka kb b7 b10:Nat} {x y:ad} {d:ByteArray} {v1 v2:Value} {base:Bool} {h8:Hp} {l8:fb} (hn9:n<4611686018427387904)
  (K8:MkR r G h8 n0 f0 FT mb bk m eb em Gv lv rv xr xl sm tm tbl rks) (hb:h8.base<=h8.next) (M8:MemAt h8 sm l8) (S8:dE R tbl l8) (T8:IsMap h8 tm)
  (hA:∀j,j<=n->(0<j\/¬d.data.toList=[109,97,110,121])->gm R r G n0 f0 FT mb bk m eb em Gv lv rv xr xl sm tm tbl rks j ka x)
  (hB:∀j,j<=n->(0<j\/¬d.data.toList=[109,97,110,121])->Aq R x j->gm R r G n0 f0 FT mb bk m eb em Gv lv rv xr xl sm tm tbl rks (n - j) kb y)
  (hP:h8.own b10 48 [.string d,v1,v2])
  {a:Ev.A} {Q:Ex->Ev.A->Hp->Prop} (hna:a.n=146) (g0:a.get 0=.pointer (some ⟨mb,0,none⟩)) (g2:a.get 2=.int .i64 (n:Int)) (g7:a.get 7=.pointer (some ⟨b7,0,none⟩)) (g8:a.get 8=.bool base) (g10:a.get 10=.pointer (some ⟨b10,0,none⟩)) (g11:a.get 11=.int .i64 (ka:Int)) (g12:a.get 12=.int .i64 (kb:Int)) (g14:a.get 14=.int .i64 0)
  (hq:∀(a1:Ev.A) (h9:Hp) (l9:fb) (is:Bool),a1.n=146->ExtS (aR sm) h8 h9->MemAt h9 sm l9->dE R tbl l9->(is=true<->base=true\/∃j,j<n+1/\(0<j\/¬d.data.toList=[109,97,110,121])/\Aq R x j/\Aq R y (n - j)) ->
   a1.get 0=.pointer (some ⟨mb,0,none⟩)->a1.get 7=.pointer (some ⟨b7,0,none⟩)->a1.get 8=.bool is->Q (.exit 1) a1 h9) :
  Th Tryz.prog (aw Tryz.f27 [1,1,1,1,1,0,1,0,1,1,1,1,1,1,1,1,1,0,1,0]) a h8 Q ⟨⟩ ⟨⟩:=by
 simp only[aw,nav,Tryz.f27]
 refine au (n:=146) (by kernel_rfl) (fun m' a' h'=>∃(i:Nat) (is:Bool) (l':fb),i<=n+1/\m'=n+1 - i/\ExtS (aR sm) h8 h'/\MemAt h' sm l'/\dE R tbl l'/\(is=true<->base=true\/∃j,j<i/\(0<j\/¬d.data.toList=[109,97,110,121])/\Aq R x j/\Aq R y (n - j)) /\
   a'.get 0=.pointer (some ⟨mb,0,none⟩)/\a'.get 2=.int .i64 (n:Int)/\a'.get 7=.pointer (some ⟨b7,0,none⟩)/\a'.get 8=.bool is/\a'.get 10=.pointer (some ⟨b10,0,none⟩)/\a'.get 11=.int .i64 (ka:Int)/\a'.get 12=.int .i64 (kb:Int)/\a'.get 14=.int .i64 (i:Int)) ?_ _ _ _ hna
  ⟨0,base,l8,lZr _,rfl,(Ext.refl _).toS,M8,S8,⟨.inl,fun c=>c.elim id (fun ⟨j,c,_⟩=>absurd c (lNz _))⟩,g0,g2,g7,g8,g10,g11,g12,g14⟩
 rintro m' a' h' hn' ⟨i,is,l',hi,rfl,X',M',S',iff,e0,e2,e7,e8,e10,e11,e12,e14⟩
 obtain ⟨K',T'⟩:=K8.keepO X' M8 T8
 have hb':=X'.bn hb
 have hP':=aJ X' hP (fun c=>by
  have c:b10=sm:=c
  subst c
  exact M8.isMap.own hP)
 by_cases hin:i<=n
 rotate_left
 ·have c1:decide ((i:Int)<=(n:Int))=false:=dcF (by omega)
  simp -dsimp only[go_sem,e0,e2,e7,e8,e10,e11,e12,e14,c1]
  refine hq _ _ l' is (by simp -dsimp only[go_sem,hn']) X' M' S' ?_ (by simp -dsimp only[go_sem,e0]) (by simp -dsimp only[go_sem,e7]) (by simp -dsimp only[go_sem,e8])
  rw[show n+1=i by omega]
  exact iff
 have c1:decide ((i:Int)<=(n:Int))=true:=dcT (by omega)
 cases is with
 | true =>
   simp -dsimp only[go_sem,e0,e2,e7,e8,e10,e11,e12,e14,c1,Bool.not_true]
   refine hq _ _ l' true (by simp -dsimp only[go_sem,hn']) X' M' S' ?_ (by simp -dsimp only[go_sem,e0]) (by simp -dsimp only[go_sem,e7]) (by simp -dsimp only[go_sem,e8])
   refine ⟨fun _=>(iff.1 rfl).imp id fun ⟨j,c,q⟩=>⟨j,by omega,q⟩,fun _=>rfl⟩
 | false =>
 have no:¬(base=true\/∃j,j<i/\(0<j\/¬d.data.toList=[109,97,110,121])/\Aq R x j/\Aq R y (n - j)):=fun c=>absurd (iff.2 c) (by decide)
 have hws:=ah (n:=i) (m:=n+1) (by omega) (by omega)
 have hwd:IntKind.i64.wrap ((n:Int) - (i:Int))=((n - i:Nat):Int):=by
  rw[show ((n:Int) - (i:Int))=((n - i:Nat):Int) by omega]
  exact dq (by omega)
 have l0:h'.load ⟨b10,0,none⟩=some (.string d):=by rw[aa hP'];rfl
 have nxt:∀(is2:Bool),(is2=true<->(0<i\/¬d.data.toList=[109,97,110,121])/\Aq R x i/\Aq R y (n - i))->(is2=true<->base=true\/∃j,j<i+1/\(0<j\/¬d.data.toList=[109,97,110,121])/\Aq R x j/\Aq R y (n - j)):=by
  intro is2 q
  constructor
  ·intro c
   exact .inr ⟨i,by omega,q.1 c⟩
  ·rintro (c|⟨j,hj,c⟩)
   ·exact absurd (.inl c) no
   ·by_cases e:j=i
    ·subst e;exact q.2 c
    ·exact absurd (.inr ⟨j,by omega,c⟩) no
 by_cases hgd:0<i\/¬d.data.toList=[109,97,110,121]
 rotate_left
 ·have c2:decide ((0:Int)<(i:Int))=false:=dcF (fun c=>hgd (.inl (by omega)))
  have c3:decide (d.data.toList=[109,97,110,121])=true:=dcT (Classical.not_not.1 (fun c=>hgd (.inr c)))
  simp -dsimp only[go_sem,e0,e2,e7,e8,e10,e11,e12,e14,c1,c2,c3,l0,Bool.not_true,Bool.not_false,hws]
  exact ⟨n+1 - (i+1),by omega,i+1,false,l',by omega,rfl,X',M',S',nxt false ⟨fun c=>(by cases c),fun c=>absurd c.1 hgd⟩,by simp -dsimp only[go_sem,e0,e2,e7,e8,e10,e11,e12,e14]⟩
 ·obtain ⟨_,h11,hs1,b1,l1,rfl,iff1,X1,M1,S1⟩:=hA i hin hgd h' l' K' hb' M' S' T'
  obtain ⟨K1,T1⟩:=K'.keepO X1 M' T'
  have hb1:=X1.bn hb'
  cases b1 with
  | false =>
    have nx:=nxt false ⟨fun c=>(by cases c),fun c=>absurd (iff1.2 c.2.1) (by decide)⟩
    by_cases hi0:0<i
    ·have c2:decide ((0:Int)<(i:Int))=true:=dcT (by omega)
     simp -dsimp only[go_sem,e0,e2,e7,e8,e10,e11,e12,e14,c1,c2,l0,Bool.not_true,Bool.not_false,hws]
     refine ⟨_,h11,hs1,?_⟩
     simp -dsimp only[go_sem,e0,e2,e7,e8,e10,e11,e12,e14,hws]
     exact ⟨n+1 - (i+1),by omega,i+1,false,l1,by omega,rfl,X'.trans X1,M1,S1,nx,by simp -dsimp only[go_sem,e0,e2,e7,e8,e10,e11,e12,e14]⟩
    ·have c2:decide ((0:Int)<(i:Int))=false:=dcF (by omega)
     have c3:decide (d.data.toList=[109,97,110,121])=false:=dcF (hgd.resolve_left hi0)
     simp -dsimp only[go_sem,e0,e2,e7,e8,e10,e11,e12,e14,c1,c2,c3,l0,Bool.not_true,Bool.not_false,hws]
     refine ⟨_,h11,hs1,?_⟩
     simp -dsimp only[go_sem,e0,e2,e7,e8,e10,e11,e12,e14,hws]
     exact ⟨n+1 - (i+1),by omega,i+1,false,l1,by omega,rfl,X'.trans X1,M1,S1,nx,by simp -dsimp only[go_sem,e0,e2,e7,e8,e10,e11,e12,e14]⟩
  | true =>
    have a1:=iff1.1 rfl
    obtain ⟨_,h12,hs2,b2,l2,rfl,iff2,X2,M2,S2⟩:=hB i hin hgd a1 h11 l1 K1 hb1 M1 S1 T1
    have nx:=nxt b2 ⟨fun c=>⟨hgd,a1,iff2.1 c⟩,fun c=>iff2.2 c.2.2⟩
    by_cases hi0:0<i
    ·have c2:decide ((0:Int)<(i:Int))=true:=dcT (by omega)
     simp -dsimp only[go_sem,e0,e2,e7,e8,e10,e11,e12,e14,c1,c2,l0,Bool.not_true,Bool.not_false,hws,hwd]
     refine ⟨_,h11,hs1,?_⟩
     simp -dsimp only[go_sem,e0,e2,e7,e8,e10,e11,e12,e14,hws,hwd]
     refine ⟨_,h12,hs2,?_⟩
     exact ⟨n+1 - (i+1),by omega,i+1,b2,l2,by omega,rfl,(X'.trans X1).trans X2,M2,S2,nx,by simp -dsimp only[go_sem,e0,e2,e7,e8,e10,e11,e12,e14]⟩
    ·have c2:decide ((0:Int)<(i:Int))=false:=dcF (by omega)
     have c3:decide (d.data.toList=[109,97,110,121])=false:=dcF (hgd.resolve_left hi0)
     simp -dsimp only[go_sem,e0,e2,e7,e8,e10,e11,e12,e14,c1,c2,c3,l0,Bool.not_true,Bool.not_false,hws,hwd]
     refine ⟨_,h11,hs1,?_⟩
     simp -dsimp only[go_sem,e0,e2,e7,e8,e10,e11,e12,e14,hws,hwd]
     refine ⟨_,h12,hs2,?_⟩
     exact ⟨n+1 - (i+1),by omega,i+1,b2,l2,by omega,rfl,(X'.trans X1).trans X2,M2,S2,nx,by simp -dsimp only[go_sem,e0,e2,e7,e8,e10,e11,e12,e14]⟩
end
section
variable {r:Ro} {h h1 h2:Hp} {n0 f0 mb bk m eb sm tm:Nat} {FT:Nat->Nat} {Gv lv rv xr xl:Value} {tbl:Tbl} {G:List ar} {em:List Bool} {rks:List Nat} {R:ByteArray->Tx->Prop}
theorem ql {n b7:Nat} {l:List ad} {ks:List Nat} {A:Option Addr} {base:Bool} {h8:Hp} {l8:fb} (hkl:ks.length=l.length) (hkb:ks.length<=9223372036854775807)
  (K8:MkR r G h8 n0 f0 FT mb bk m eb em Gv lv rv xr xl sm tm tbl rks) (hb:h8.base<=h8.next) (M8:MemAt h8 sm l8) (S8:dE R tbl l8) (T8:IsMap h8 tm)
  (hA:∀(i c:Nat) (x:ad),ks[i]? = some c->l[i]? = some x->gm R r G n0 f0 FT mb bk m eb em Gv lv rv xr xl sm tm tbl rks n c x)
  (hld:∀(h':Hp),ExtS (aR sm) h8 h'->∀(j c:Nat),ks[j]? = some c->∃b,A=some ⟨b,0,none⟩/\h'.load ⟨b,j,none⟩=some (.int .i64 (c:Int)))
  {a:Ev.A} {Q:Ex->Ev.A->Hp->Prop} (hna:a.n=146) (g0:a.get 0=.pointer (some ⟨mb,0,none⟩)) (g2:a.get 2=.int .i64 (n:Int)) (g7:a.get 7=.pointer (some ⟨b7,0,none⟩)) (g8:a.get 8=.bool base) (g96:a.get 96=.slice A ks.length ks.length) (g97:a.get 97=.int .i64 (ks.length:Int)) (g98:a.get 98=.int .i64 0)
  (hq:∀(a1:Ev.A) (h9:Hp) (l9:fb) (is:Bool),a1.n=146->ExtS (aR sm) h8 h9->MemAt h9 sm l9->dE R tbl l9->(is=true<->base=true\/∃x∈l,Aq R x n) ->
   a1.get 0=.pointer (some ⟨mb,0,none⟩)->a1.get 7=.pointer (some ⟨b7,0,none⟩)->a1.get 8=.bool is->Q (.exit 3) a1 h9) :
  Th Tryz.prog (aw Tryz.f27 [1,1,1,1,1,0,1,0,1,1,1,1,1,1,1,1,1,1,1,0]) a h8 Q ⟨⟩ ⟨⟩:=by
 simp only[aw,nav,Tryz.f27]
 refine au (n:=146) (by kernel_rfl) (fun m' a' h'=>∃(i:Nat) (is:Bool) (l':fb),i<=ks.length/\m'=ks.length - i/\ExtS (aR sm) h8 h'/\MemAt h' sm l'/\dE R tbl l'/\(is=true<->base=true\/∃j x,j<i/\l[j]? = some x/\Aq R x n) /\
   a'.get 0=.pointer (some ⟨mb,0,none⟩)/\a'.get 2=.int .i64 (n:Int)/\a'.get 7=.pointer (some ⟨b7,0,none⟩)/\a'.get 8=.bool is/\a'.get 96=.slice A ks.length ks.length/\a'.get 97=.int .i64 (ks.length:Int)/\a'.get 98=.int .i64 (i:Int)) ?_ _ _ _ hna
  ⟨0,base,l8,lZr _,rfl,(Ext.refl _).toS,M8,S8,⟨.inl,fun c=>c.elim id (fun ⟨j,_,c,_⟩=>absurd c (lNz _))⟩,g0,g2,g7,g8,g96,g97,g98⟩
 rintro m' a' h' hn' ⟨i,is,l',hi,rfl,X',M',S',iff,e0,e2,e7,e8,e96,e97,e98⟩
 obtain ⟨K',T'⟩:=K8.keepO X' M8 T8
 have hb':=X'.bn hb
 by_cases hlt:i<ks.length
 rotate_left
 ·have c1:decide ((i:Int)<(ks.length:Int))=false:=dcF (by omega)
  simp -dsimp only[go_sem,e0,e2,e7,e8,e96,e97,e98,c1]
  refine hq _ _ l' is (by simp -dsimp only[go_sem,hn']) X' M' S' (iff.trans ⟨fun c=>c.imp id fun ⟨j,x,_,q1,q2⟩=>⟨x,mOg q1,q2⟩,fun c=>c.imp id fun ⟨x,q1,q2⟩ => ?_⟩) (by simp -dsimp only[go_sem,e0]) (by simp -dsimp only[go_sem,e7]) (by simp -dsimp only[go_sem,e8])
  obtain ⟨j,hj⟩:=List.getElem?_of_mem q1
  have:=(List.getElem?_eq_some_iff.1 hj).1
  exact ⟨j,x,by omega,hj,q2⟩
 have c1:decide ((i:Int)<(ks.length:Int))=true:=dcT (by omega)
 have hki:ks[i]? = some ks[i]:=gEl hlt
 have hli:l[i]? = some (l[i]'(by omega)):=gEl _
 generalize ks[i]=c at hki
 generalize l[i]'(by omega)=x at hli
 obtain ⟨bb,rfl,lk⟩:=hld h' X' i c hki
 have ik:ap Tryz.prog 71 (.slice (some ⟨bb,0,none⟩) ks.length ks.length) (.int .i64 (i:Int))=some (.pointer (some ⟨bb,i,none⟩)):=by
  have:=mB (b:=bb) (o:=0) (n:=ks.length) (c:=ks.length) (i:=i) hlt
  rwa[Nat.zero_add] at this
 have hws:=ah hlt hkb
 cases is with
 | true =>
   simp -dsimp only[go_sem,e0,e2,e7,e8,e96,e97,e98,c1,ik,lk,hws]
   exact ⟨ks.length - (i+1),by omega,i+1,true,l',by omega,rfl,X',M',S',⟨fun _=>(iff.1 rfl).imp id fun ⟨j,x,c,q⟩=>⟨j,x,by omega,q⟩,fun _=>rfl⟩,by simp -dsimp only[go_sem,e0,e2,e7,e8,e96,e97,e98]⟩
 | false =>
   have no:¬(base=true\/∃j x,j<i/\l[j]? = some x/\Aq R x n):=fun c=>absurd (iff.2 c) (by decide)
   obtain ⟨_,h11,hs1,b1,l1,rfl,iff1,X1,M1,S1⟩:=hA i c x hki hli h' l' K' hb' M' S' T'
   simp -dsimp only[go_sem,e0,e2,e7,e8,e96,e97,e98,c1,ik,lk,hws]
   refine ⟨_,h11,hs1,?_⟩
   refine ⟨ks.length - (i+1),by omega,i+1,b1,l1,by omega,rfl,X'.trans X1,M1,S1,⟨fun c=>.inr ⟨i,x,by omega,hli,iff1.1 c⟩,?_⟩,by simp -dsimp only[go_sem,e0,e2,e7,e8,e96,e97,e98]⟩
   rintro (c|⟨j,x',hj,q1,q2⟩)
   ·exact absurd (.inl c) no
   ·by_cases e:j=i
    ·subst e
     rw[hli] at q1
     injection q1 with q1
     subst q1
     exact iff1.2 q2
    ·exact absurd (.inr ⟨j,x',by omega,q1,q2⟩) no
end
section
variable {r:Ro} {h h1 h2:Hp} {n0 f0 mb bk m eb sm tm:Nat} {FT:Nat->Nat} {Gv lv rv xr xl:Value} {tbl:Tbl} {G:List ar} {em:List Bool} {rks:List Nat} {R:ByteArray->Tx->Prop}
theorem rF {xr:Value} (k:SlL 1 3 99 h n0 f0 FT xr (fZ rks)) {i c:Nat} (hi:rks[i]? = some c):∃b N,xr=.slice (some ⟨b,0,none⟩) N N/\i<N/\h.load ⟨b,i,none⟩=some (.int .i64 (c:Int)):=by
 have hlt:=(List.getElem?_eq_some_iff.1 hi).1
 rcases k with ⟨e,rfl⟩|⟨b,f,n,rfl,hl,hr,_⟩
 ·rw[List.map_eq_nil_iff.1 e] at hi
  simp at hi
 ·rw[k7] at hl
  refine ⟨b,n,rfl,by omega,?_⟩
  rw[bV hr]
  unfold fZ
  rw[List.getElem?_map,hi]
  rfl
theorem sZ {k n:Nat} {d t:ByteArray} {ps:List ad} {ks:List Nat} (hn9:n<4611686018427387904) (hN:Num tbl k ⟨d,t,ps⟩) (hk:tbl[k]? = some (⟨d,t,ps⟩,ks))
  (hkd:d.data.toList=[105,115]\/(d.data.toList=[114,117,108,101]/\ae (nms G) t<(nms G).length)\/d.data.toList=[110,111,116,104,105,110,103]\/(d.data.toList=[115,101,113]/\∃x y l',ps=x::y::l')\/(d.data.toList=[109,97,110,121]/\∃x,ps=[x])\/oY ⟨d,t,ps⟩)
  (hrule:d.data.toList=[114,117,108,101]->∃k' p',rks[ae (nms G) t]? = some k'/\gm R r G n0 f0 FT mb bk m eb em Gv lv rv xr xl sm tm tbl rks n k' p'/\(Aq R ⟨d,t,ps⟩ n<->Aq R p' n))
  (htwo:d.data.toList=[115,101,113]->∀x y l',ps=x::y::l'->∃ka kb,ks=[ka,kb]/\(∀j,j<=n->gm R r G n0 f0 FT mb bk m eb em Gv lv rv xr xl sm tm tbl rks j ka x)/\∀j,j<=n->Aq R x j->gm R r G n0 f0 FT mb bk m eb em Gv lv rv xr xl sm tm tbl rks (n - j) kb ⟨dx,noT,y::l'⟩)
  (hmany:d.data.toList=[109,97,110,121]->∀x,ps=[x]->∃ka,ks=[ka]/\(∀j,j<=n->gm R r G n0 f0 FT mb bk m eb em Gv lv rv xr xl sm tm tbl rks j ka x)/\∀j,j<=n->0<j->gm R r G n0 f0 FT mb bk m eb em Gv lv rv xr xl sm tm tbl rks (n - j) k ⟨d,t,ps⟩)
  (hkids:oY ⟨d,t,ps⟩->ks.length=ps.length/\∀(i c:Nat) (x:ad),ks[i]? = some c->ps[i]? = some x->gm R r G n0 f0 FT mb bk m eb em Gv lv rv xr xl sm tm tbl rks n c x) :
  gm R r G n0 f0 FT mb bk m eb em Gv lv rv xr xl sm tm tbl rks n k ⟨d,t,ps⟩:=by
 intro h l K hb hM hS hT
 refine aL wf Tryz.func27 rfl rfl (n:=146) rfl (by kernel_rfl) rfl ?_
 intro a hn hg
 have hr:Tryz.f27.results.toList=[.tmp 6]:=rfl
 have g0:=hg 0
 have g1:=hg 1
 have g2:=hg 2
 clear hg
 simp only[gC0,gC1] at g0 g1 g2
 have m4:∀h':Hp,MkR r G h' n0 f0 FT mb bk m eb em Gv lv rv xr xl sm tm tbl rks->h'.load ⟨mb,4,none⟩=some (.map (some sm)):=fun h' k=>by rw[aa k.own];rfl
 have hw0:=an hb 115 [.int .i64 0,.int .i64 0]
 have hx0:=Ext.new h (ak.cells ⟨[.int .i64 0,.int .i64 0],115,0,0,false⟩)
 have hst:=aE (o:=0) (vs:=[.int .i64 (k:Int),.int .i64 (n:Int)]) (c1:=[.int .i64 (k:Int),.int .i64 (n:Int)]) hw0 rfl rfl (by simp)
 have hxA:=hx0.put (b:=h.next) (lRf _) (ak.cells ⟨[.int .i64 (k:Int),.int .i64 (n:Int)],115,0,0,false⟩)
 have hPA:=av hw0 [.int .i64 (k:Int),.int .i64 (n:Int)]
 have hnA:((h.newH (ak.cells ⟨[.int .i64 0,.int .i64 0],115,0,0,false⟩)).put h.next (ak.cells ⟨[.int .i64 (k:Int),.int .i64 (n:Int)],115,0,0,false⟩)).next=h.next+1:=rfl
 generalize hhA:(h.newH (ak.cells ⟨[.int .i64 0,.int .i64 0],115,0,0,false⟩)).put h.next (ak.cells ⟨[.int .i64 (k:Int),.int .i64 (n:Int)],115,0,0,false⟩)=hA at hst hxA hPA hnA
 obtain ⟨KA,TA⟩:=K.keepO hxA.toS hM hT
 have MA:=hM.extS (S:=fun _=>False) hxA.toS (fun c=>c)
 have hbA:hA.base<=hA.next:=by rw[hxA.base];exact lTr hb hxA.next
 have lk:=MA.lookup zu (z:=.bool false) (by kernel_rfl) k n
 unfold fF at lk
 have l2:hA.loads ⟨h.next,0,none⟩ 2=some [.int .i64 (k:Int),.int .i64 (n:Int)]:=by rw[af hPA];rfl
 simp -dsimp only[go_sem,g0,g1,g2,zt,fF,b5,hst]
 refine aD (n:=146) [[],[0],[0,1],[0,1,2],[],[0,1,2,3,4],[0,1,2,3,4,5],[0,1,2,3,4,5,6],[0,1,2,3,4,5,6],[0,1,2,3,4,5,6,7],[0,1,2,3,4,5,6,7,8,9]] (by simp -dsimp only[go_sem,hn]) (ao (by kernel_rfl)) ?_
 cases hf:iC l k n 0 with
 | some v =>
   rw[hf] at lk
   obtain ⟨b,hv,hiff⟩:=hS k n v.2 _ (lQ _ _ _ _ _ hf) hN
   obtain ⟨q,v⟩:=v
   have hv:v=.bool b:=hv
   subst hv
   simp only at lk
   simp -dsimp only[go_sem,g0,g1,g2,m4 hA KA,b5,l2,lk,hr]
   exact ⟨b,l,rfl,hiff,hxA.toS,MA,hS⟩
 | none =>
 rw[hf] at lk
 simp only at lk
 obtain ⟨b,b2,nL,n2,kv0,cs,e1,e2,e3,e4,hp,hl,_,_⟩:=KA.tab.get hk
 obtain ⟨Av,c,hcs⟩:=hp.shape
 have hlt:k<tbl.length:=(List.getElem?_eq_some_iff.1 hk).1
 have m1:hA.load ⟨mb,1,none⟩=some lv:=by rw[aa KA.own];rfl
 have ik:ap Tryz.prog 46 lv (.int .i64 (k:Int))=some (.pointer (some ⟨b,k*3,none⟩)):=by
  have:=oz (b:=b) (o:=0) (n:=nL) (c:=nL) (i:=k) (by omega)
  rw[e1]
  rwa[Nat.zero_add] at this
 have hwB:=an hbA 48 [.string ⟨#[]⟩,.string ⟨#[]⟩,.slice none 0 0]
 have hxB0:=Ext.new hA (ak.cells ⟨[.string ⟨#[]⟩,.string ⟨#[]⟩,.slice none 0 0],48,0,0,false⟩)
 have hstB:=aE (o:=0) (vs:=cs) (c1:=cs) hwB (by rw[hcs];rfl) (by rw[hcs];rfl) (by rw[hcs];simp)
 have hxB:=hxB0.put (b:=hA.next) (lRf _) (ak.cells { c:=cs,e:=48,fam:=0,base:=0,grown:=false })
 have hPB:=av hwB cs
 generalize hhB:(hA.newH (ak.cells ⟨[.string ⟨#[]⟩,.string ⟨#[]⟩,.slice none 0 0],48,0,0,false⟩)).put hA.next (ak.cells { c:=cs,e:=48,fam:=0,base:=0,grown:=false })=hB at hstB hxB hPB
 rw[hcs] at hstB hPB hl
 have hcs3:[Value.string d,Value.string t,Value.slice Av ps.length c].length=3:=rfl
 obtain ⟨KB,TB⟩:=KA.keepO hxB.toS MA TA
 have MB:=MA.extS (S:=fun _=>False) hxB.toS (fun c=>c)
 have hbB:hB.base<=hB.next:=by rw[hxB.base];exact lTr hbA hxB.next
 have hPA2:=aj hxB hPA
 have l0:hB.load ⟨hA.next,0,none⟩=some (.string d):=by rw[aa hPB];rfl
 have l1:hB.load ⟨hA.next,1,none⟩=some (.string t):=by rw[aa hPB];rfl
 have nsm:¬h.next=sm:=fun e=>by have:=hM.1;omega
 have fin:∀(h9:Hp) (l9:fb) (b:Bool),ExtS (aR sm) hB h9->MemAt h9 sm l9->dE R tbl l9->(b=true<->Aq R ⟨d,t,ps⟩ n)->∃o,h9.load ⟨mb,4,none⟩=some (.map (some sm))/\h9.loads ⟨h.next,0,none⟩ 2=some [.int .i64 (k:Int),.int .i64 (n:Int)]/\bF Tryz.prog h9 67 (.map (some sm)) (.agg #[.int .i64 (k:Int),.int .i64 (n:Int)]) (.bool b)=some (h9.put sm o) /\
   ∃(b':Bool) (l1:fb),Value.bool b=.bool b'/\(b'=true<->Aq R ⟨d,t,ps⟩ n)/\ExtS (aR sm) h (h9.put sm o)/\MemAt (h9.put sm o) sm l1/\dE R tbl l1:=by
  intro h9 l9 b X9 M9 S9 hiff
  obtain ⟨K9,T9⟩:=KB.keepO X9 MB TB
  obtain ⟨o,l',u1,u2,u3⟩:=M9.update zu k n (.bool b)
  refine ⟨o,m4 h9 K9,?_,u1,b,l',rfl,hiff,((hxA.trans hxB).toS.trans X9).put (.inr rfl) o,u2,fun k' n' v' p' hm hN' => ?_⟩
  ·rw[af (aJ X9 hPA2 nsm)];rfl
  ·rcases u3 _ hm with hm|e
   ·exact S9 k' n' v' p' hm hN'
   ·simp only[Prod.mk.injEq] at e
    obtain ⟨rfl,rfl,rfl⟩:=e
    rw[hN'.one hN]
    exact ⟨b,rfl,hiff⟩
 simp -dsimp only[go_sem,g0,g1,g2,m4 hA KA,b5,l2,lk,m1,ik,hl,hcs3,hstB,l0]
 rcases hkd with hd|⟨hd,hix⟩|hd|⟨hd,x,y,l',rfl⟩|⟨hd,x,rfl⟩|hd
 ·have c1:decide (d.data.toList=[105,115])=true:=dcT hd
  obtain ⟨o,q1,q2,q3,q4⟩:=fin hB l (decide ((n:Int)=1)) ((Ext.refl _).toS) MB hS (by
   rw[DO hd,decide_eq_true_iff]
   omega)
  simp -dsimp only[go_sem,g0,g1,g2,c1]
  refine aD (n:=146) [[],[0],[0,1],[0,1,2],[],[],[0,1,2,3,4,5]] (by simp -dsimp only[go_sem,hn]) (ao (by kernel_rfl)) ?_
  simp -dsimp only[go_sem,g0,g1,g2,b5,q1,q2,q3,hr]
  exact q4
 ·have c1:decide (d.data.toList=[105,115])=false:=dcF (by rw[hd];decide)
  have c2:decide (d.data.toList=[110,111,116,104,105,110,103])=false:=dcF (by rw[hd];decide)
  have c3:decide (d.data.toList=[114,117,108,101])=true:=dcT hd
  obtain ⟨k',p',w1,w2,w3⟩:=hrule hd
  obtain ⟨rb,rN,rfl,w4,w5⟩:=rF KB.rule w1
  obtain ⟨_,h9,hs9,b9,l9,rfl,iff9,X9,M9,S9⟩:=w2 hB l KB hbB MB hS TB
  obtain ⟨o,q1,q2,q3,q4⟩:=fin h9 l9 b9 X9 M9 S9 (iff9.trans w3.symm)
  have m3:hB.load ⟨mb,3,none⟩=some (.slice (some ⟨rb,0,none⟩) rN rN):=by rw[aa KB.own];rfl
  have m0:hB.load ⟨mb,0,none⟩=some (.pointer (some ⟨bk,0,none⟩)):=by rw[aa KB.own];rfl
  have mk1:hB.load ⟨bk,1,none⟩=some (.map (some m)):=by rw[aa KB.book.own];rfl
  have lkb:=KB.book.lookup hix false
  rw[if_neg (by decide)] at lkb
  have ir:ap Tryz.prog 71 (.slice (some ⟨rb,0,none⟩) rN rN) (.int .i64 (ae (nms G) t:Int))=some (.pointer (some ⟨rb,ae (nms G) t,none⟩)):=by
   have:=mB (b:=rb) (o:=0) (n:=rN) (c:=rN) (i:=ae (nms G) t) w4
   rwa[Nat.zero_add] at this
  have s1:aB 9 (.slice (some ⟨rb,0,none⟩) rN rN) (.slice (some ⟨rb,0,none⟩) rN rN)=true:=by simp[aB]
  simp -dsimp only[go_sem,g0,g1,g2,c1,c2,c3]
  refine aD (n:=146) [[],[],[1],[1,2],[1,2,3],[],[5],[5,6],[5,6,7],[5,6,7,8],[5,6,7,8,9],[5,6,7,8,9,10],[],[12],[5,6,7,8,9,10,11,12,13],[1,2,3,4,5,6,7,8,9,10,11,12,13,14],[1,2,3,4,5,6,7,8,9,10,11,12,13,14,15],[],[0,1,2,3,4,5,6,7,8,9,10,11,12,13,14,15,16,17],[0,1,2,3,4,5,6,7,8,9,10,11,12,13,14,15,16,17,18]] (by simp -dsimp only[go_sem,hn]) (ao (by kernel_rfl)) ?_
  simp -dsimp only[go_sem,g0,g1,g2,m3,m0,mk1,l1,lkb,ir,w5,s1]
  refine ⟨_,h9,hs9,?_⟩
  simp -dsimp only[go_sem,g0,g1,g2]
  refine aD (n:=146) [[],[0],[0,1],[0,1,2],[],[],[0,1,2,3,4,5]] (by simp -dsimp only[go_sem,hn]) (ao (by kernel_rfl)) ?_
  simp -dsimp only[go_sem,g0,g1,g2,b5,q1,q2,q3,hr]
  exact q4
 ·have c1:decide (d.data.toList=[105,115])=false:=dcF (by rw[hd];decide)
  have c2:decide (d.data.toList=[110,111,116,104,105,110,103])=true:=dcT hd
  obtain ⟨o,q1,q2,q3,q4⟩:=fin hB l (decide ((n:Int)=0)) ((Ext.refl _).toS) MB hS (by
   rw[uK hd,decide_eq_true_iff]
   omega)
  simp -dsimp only[go_sem,g0,g1,g2,c1,c2]
  refine aD (n:=146) [[],[0],[0,1],[0,1,2],[],[],[0,1,2,3,4,5]] (by simp -dsimp only[go_sem,hn]) (ao (by kernel_rfl)) ?_
  simp -dsimp only[go_sem,g0,g1,g2,b5,q1,q2,q3,hr]
  exact q4
 ·have c1:decide (d.data.toList=[105,115])=false:=dcF (by rw[hd];decide)
  have c2:decide (d.data.toList=[110,111,116,104,105,110,103])=false:=dcF (by rw[hd];decide)
  have c3:decide (d.data.toList=[114,117,108,101])=false:=dcF (by rw[hd];decide)
  have nm:¬d.data.toList=[109,97,110,121]:=by rw[hd];decide
  have c4:decide (d.data.toList=[109,97,110,121])=false:=dcF nm
  have c5:decide (d.data.toList=[111,112,116])=false:=dcF (by rw[hd];decide)
  obtain ⟨ka,kb,rfl,hka,hkb2⟩:=htwo hd x y l' rfl
  obtain ⟨_,h9,hs9,rfl,X9⟩:=fg KB hbB hk (fun _=>by simp) (fun _ _=>by simp)
  obtain ⟨K9,T9⟩:=KB.keepO X9.toS MB TB
  have M9:=MB.extS (S:=fun _=>False) X9.toS (fun c=>c)
  unfold fz at hs9
  rw[if_neg nm,if_pos ⟨hd,by simp⟩] at hs9
  simp only[List.headD_cons,List.getD_cons_succ,List.getD_cons_zero] at hs9
  have hP9:=aj X9 hPB
  have hb9:h9.base<=h9.next:=by rw[X9.base];exact lTr hbB X9.next
  by_cases c0:n=0
  ·have cn:decide ((n:Int)=0)=true:=dcT (by omega)
   simp -dsimp only[go_sem,g0,g1,g2,c1,c2,c3,c4,c5,cn,l0,ai]
   refine ⟨_,h9,hs9,?_⟩
   simp -dsimp only[go_sem,g0,g1,g2]
   refine iw (x:=x) (y:=⟨dx,noT,y::l'⟩) (base:=false) (d:=d) hn9 K9 hb9 M9 hS T9 (fun j hj _=>hka j hj) (fun j hj _ ha=>hkb2 j hj ha) hP9 (by simp -dsimp only[go_sem,hn]) (by simp -dsimp only[go_sem,g0]) (by simp -dsimp only[go_sem,g2]) (by simp -dsimp only[go_sem];rfl) (by simp -dsimp only[go_sem]) (by simp -dsimp only[go_sem]) (by simp -dsimp only[go_sem]) (by simp -dsimp only[go_sem]) (by simp -dsimp only[go_sem]) (fun a1 h10 l10 is hn1 X10 M10 S10 iff10 p0 p7 p8 => ?_)
   obtain ⟨o,q1,q2,q3,q4⟩:=fin h10 l10 is (X9.toS.trans X10) M10 S10 (by
    rw[iff10,zq hd]
    exact ⟨fun c=>c.elim (fun c=>by cases c) fun ⟨j,c1,_,c2⟩=>⟨j,c1,c2⟩,fun ⟨j,c1,c2⟩=>.inr ⟨j,c1,.inr nm,c2⟩⟩)
   simp -dsimp only[go_sem,p0,p7,p8]
   refine aD (n:=146) [[],[0],[0,1],[0,1,2],[],[],[0,1,2,3,4,5]] (by simp -dsimp only[go_sem,hn1]) (ao (by kernel_rfl)) ?_
   simp -dsimp only[go_sem,p0,p7,p8,b5,q1,q2,q3,hr]
   exact q4
  ·have cn:decide ((n:Int)=0)=false:=dcF (by omega)
   simp -dsimp only[go_sem,g0,g1,g2,c1,c2,c3,c4,c5,cn,l0,ai]
   refine ⟨_,h9,hs9,?_⟩
   simp -dsimp only[go_sem,g0,g1,g2]
   refine iw (x:=x) (y:=⟨dx,noT,y::l'⟩) (base:=false) (d:=d) hn9 K9 hb9 M9 hS T9 (fun j hj _=>hka j hj) (fun j hj _ ha=>hkb2 j hj ha) hP9 (by simp -dsimp only[go_sem,hn]) (by simp -dsimp only[go_sem,g0]) (by simp -dsimp only[go_sem,g2]) (by simp -dsimp only[go_sem];rfl) (by simp -dsimp only[go_sem]) (by simp -dsimp only[go_sem]) (by simp -dsimp only[go_sem]) (by simp -dsimp only[go_sem]) (by simp -dsimp only[go_sem]) (fun a1 h10 l10 is hn1 X10 M10 S10 iff10 p0 p7 p8 => ?_)
   obtain ⟨o,q1,q2,q3,q4⟩:=fin h10 l10 is (X9.toS.trans X10) M10 S10 (by
    rw[iff10,zq hd]
    exact ⟨fun c=>c.elim (fun c=>by cases c) fun ⟨j,c1,_,c2⟩=>⟨j,c1,c2⟩,fun ⟨j,c1,c2⟩=>.inr ⟨j,c1,.inr nm,c2⟩⟩)
   simp -dsimp only[go_sem,p0,p7,p8]
   refine aD (n:=146) [[],[0],[0,1],[0,1,2],[],[],[0,1,2,3,4,5]] (by simp -dsimp only[go_sem,hn1]) (ao (by kernel_rfl)) ?_
   simp -dsimp only[go_sem,p0,p7,p8,b5,q1,q2,q3,hr]
   exact q4
 ·have c1:decide (d.data.toList=[105,115])=false:=dcF (by rw[hd];decide)
  have c2:decide (d.data.toList=[110,111,116,104,105,110,103])=false:=dcF (by rw[hd];decide)
  have c3:decide (d.data.toList=[114,117,108,101])=false:=dcF (by rw[hd];decide)
  have c4:decide (d.data.toList=[109,97,110,121])=true:=dcT hd
  have nsq:¬d.data.toList=[115,101,113]:=by rw[hd];decide
  obtain ⟨ka,rfl,hka,hkb2⟩:=hmany hd x rfl
  obtain ⟨_,h9,hs9,rfl,X9⟩:=fg KB hbB hk (fun _=>by simp) (fun e _=>absurd e nsq)
  obtain ⟨K9,T9⟩:=KB.keepO X9.toS MB TB
  have M9:=MB.extS (S:=fun _=>False) X9.toS (fun c=>c)
  unfold fz at hs9
  rw[if_pos hd] at hs9
  simp only[List.headD_cons] at hs9
  have hP9:=aj X9 hPB
  have hb9:h9.base<=h9.next:=by rw[X9.base];exact lTr hbB X9.next
  by_cases c0:n=0
  ·have cn:decide ((n:Int)=0)=true:=dcT (by omega)
   simp -dsimp only[go_sem,g0,g1,g2,c1,c2,c3,c4,cn,l0,ai]
   refine ⟨_,h9,hs9,?_⟩
   simp -dsimp only[go_sem,g0,g1,g2]
   refine iw (x:=x) (y:=⟨d,t,[x]⟩) (base:=true) (d:=d) hn9 K9 hb9 M9 hS T9 (fun j hj _=>hka j hj) (fun j hj hj0 _=>hkb2 j hj (hj0.resolve_right (fun c=>c hd))) hP9 (by simp -dsimp only[go_sem,hn]) (by simp -dsimp only[go_sem,g0]) (by simp -dsimp only[go_sem,g2]) (by simp -dsimp only[go_sem];rfl) (by simp -dsimp only[go_sem]) (by simp -dsimp only[go_sem]) (by simp -dsimp only[go_sem]) (by simp -dsimp only[go_sem]) (by simp -dsimp only[go_sem]) (fun a1 h10 l10 is hn1 X10 M10 S10 iff10 p0 p7 p8 => ?_)
   obtain ⟨o,q1,q2,q3,q4⟩:=fin h10 l10 is (X9.toS.trans X10) M10 S10 (by
    rw[iff10,vG hd]
    exact ⟨fun c=>c.imp (fun c=>c0) fun ⟨j,c1,c3,c2⟩=>⟨j,c1,c3.resolve_right (fun c=>c hd),c2⟩,fun c=>c.imp (fun c=>rfl) fun ⟨j,c1,c3,c2⟩=>⟨j,c1,.inl c3,c2⟩⟩)
   simp -dsimp only[go_sem,p0,p7,p8]
   refine aD (n:=146) [[],[0],[0,1],[0,1,2],[],[],[0,1,2,3,4,5]] (by simp -dsimp only[go_sem,hn1]) (ao (by kernel_rfl)) ?_
   simp -dsimp only[go_sem,p0,p7,p8,b5,q1,q2,q3,hr]
   exact q4
  ·have cn:decide ((n:Int)=0)=false:=dcF (by omega)
   simp -dsimp only[go_sem,g0,g1,g2,c1,c2,c3,c4,cn,l0,ai]
   refine ⟨_,h9,hs9,?_⟩
   simp -dsimp only[go_sem,g0,g1,g2]
   refine iw (x:=x) (y:=⟨d,t,[x]⟩) (base:=false) (d:=d) hn9 K9 hb9 M9 hS T9 (fun j hj _=>hka j hj) (fun j hj hj0 _=>hkb2 j hj (hj0.resolve_right (fun c=>c hd))) hP9 (by simp -dsimp only[go_sem,hn]) (by simp -dsimp only[go_sem,g0]) (by simp -dsimp only[go_sem,g2]) (by simp -dsimp only[go_sem];rfl) (by simp -dsimp only[go_sem]) (by simp -dsimp only[go_sem]) (by simp -dsimp only[go_sem]) (by simp -dsimp only[go_sem]) (by simp -dsimp only[go_sem]) (fun a1 h10 l10 is hn1 X10 M10 S10 iff10 p0 p7 p8 => ?_)
   obtain ⟨o,q1,q2,q3,q4⟩:=fin h10 l10 is (X9.toS.trans X10) M10 S10 (by
    rw[iff10,vG hd]
    exact ⟨fun c=>c.imp (fun c=>(by cases c)) fun ⟨j,c1,c3,c2⟩=>⟨j,c1,c3.resolve_right (fun c=>c hd),c2⟩,fun c=>c.imp (fun c=>absurd c c0) fun ⟨j,c1,c3,c2⟩=>⟨j,c1,.inl c3,c2⟩⟩)
   simp -dsimp only[go_sem,p0,p7,p8]
   refine aD (n:=146) [[],[0],[0,1],[0,1,2],[],[],[0,1,2,3,4,5]] (by simp -dsimp only[go_sem,hn1]) (ao (by kernel_rfl)) ?_
   simp -dsimp only[go_sem,p0,p7,p8,b5,q1,q2,q3,hr]
   exact q4
 ·have nm:¬d.data.toList=[109,97,110,121]:=by
   rcases hd with hd|hd|hd
   ·rw[show d.data.toList=_ from hd];decide
   ·rw[show d.data.toList=_ from hd];decide
   ·rw[show d.data.toList=_ from hd.1];decide
  have c1:decide (d.data.toList=[105,115])=false:=dcF (by
   rcases hd with hd|hd|hd
   ·rw[show d.data.toList=_ from hd];decide
   ·rw[show d.data.toList=_ from hd];decide
   ·rw[show d.data.toList=_ from hd.1];decide)
  have c2:decide (d.data.toList=[110,111,116,104,105,110,103])=false:=dcF (by
   rcases hd with hd|hd|hd
   ·rw[show d.data.toList=_ from hd];decide
   ·rw[show d.data.toList=_ from hd];decide
   ·rw[show d.data.toList=_ from hd.1];decide)
  have c3:decide (d.data.toList=[114,117,108,101])=false:=dcF (by
   rcases hd with hd|hd|hd
   ·rw[show d.data.toList=_ from hd];decide
   ·rw[show d.data.toList=_ from hd];decide
   ·rw[show d.data.toList=_ from hd.1];decide)
  have nsq:d.data.toList=[115,101,113]->¬ 1<ps.length:=by
   intro e
   rcases hd with hd|hd|hd
   ·rw[show d.data.toList=_ from hd] at e;exact absurd e (by decide)
   ·rw[show d.data.toList=_ from hd] at e;exact absurd e (by decide)
   ·have:=hd.2
    have:ps.length=1:=this
    omega
  have c4:decide (d.data.toList=[109,97,110,121])=false:=dcF nm
  obtain ⟨hkl,hka⟩:=hkids hd
  have hkb:ks.length<=9223372036854775807:=by
   rw[hkl]
   cases hp
   assumption
  obtain ⟨_,h9,hs9,rfl,X9⟩:=fg KB hbB hk (fun e=>absurd e nm) (fun e e2=>absurd e2 (nsq e))
  obtain ⟨K9,T9⟩:=KB.keepO X9.toS MB TB
  have M9:=MB.extS (S:=fun _=>False) X9.toS (fun c=>c)
  unfold fz at hs9
  rw[if_neg nm,if_neg (fun c=>nsq c.1 c.2)] at hs9
  have hb9:h9.base<=h9.next:=by rw[X9.base];exact lTr hbB X9.next
  obtain ⟨b',b2',n',n2',kv,_,e1',e2',_,e4',_,_,hkv,hkid⟩:=K9.tab.get hk
  have hkid0:=hkid
  obtain ⟨Ak,eA,hsA,_⟩:=hkid.len
  have m2:h9.load ⟨mb,2,none⟩=some rv:=by rw[aa K9.own];rfl
  have ik2:ap Tryz.prog 70 rv (.int .i64 (k:Int))=some (.pointer (some ⟨b2',k,none⟩)):=by
   have:=pO (b:=b2') (o:=0) (n:=n2') (c:=n2') (i:=k) (by omega)
   rw[e2']
   rwa[Nat.zero_add] at this
  have hld:∀(h':Hp),ExtS (aR sm) h9 h'->∀(j c:Nat),ks[j]? = some c->∃b,Ak=some ⟨b,0,none⟩/\h'.load ⟨b,j,none⟩=some (.int .i64 (c:Int)):=by
   intro h' X'
   have hk':=hkid0.keep (Fr.ofS (B:=aR sm) (T:=fun _=>False) (FT:=FT) X' (fun b c=>c)) (Agree.refl _) (fun b cs f k _ c=>by
    have c:b=sm:=c
    subst c
    exact M9.isMap.row k) (fun _ c=>c)
   obtain ⟨A',eA',_,hh⟩:=hk'.len
   rw[eA] at eA'
   injection eA' with eA'
   subst eA'
   exact hh
  subst eA
  have cbo:∃bo,decide (d.data.toList=[111,112,116])=bo:=⟨_,rfl⟩
  obtain ⟨bo,c5⟩:=cbo
  have hbo:bo=true<->d.data.toList=[111,112,116]:=by rw[<-c5,decide_eq_true_iff]
  by_cases c0:n=0
  ·have cn:decide ((n:Int)=0)=true:=dcT (by omega)
   simp -dsimp only[go_sem,g0,g1,g2,c1,c2,c3,c4,c5,cn,l0,ai]
   refine ⟨_,h9,hs9,?_⟩
   simp -dsimp only[go_sem,g0,g1,g2,m2,ik2,hkv]
   refine ql (l:=ps) (base:=bo) hkl hkb K9 hb9 M9 hS T9 hka hld (by simp -dsimp only[go_sem,hn]) (by simp -dsimp only[go_sem,g0]) (by simp -dsimp only[go_sem,g2]) (by simp -dsimp only[go_sem];rfl) (by simp -dsimp only[go_sem]) (by simp -dsimp only[go_sem]) (by simp -dsimp only[go_sem]) (by simp -dsimp only[go_sem]) (fun a1 h10 l10 is hn1 X10 M10 S10 iff10 p0 p7 p8 => ?_)
   obtain ⟨o,q1,q2,q3,q4⟩:=fin h10 l10 is (X9.toS.trans X10) M10 S10 (by
    rw[iff10,vH hd]
    exact ⟨fun c=>c.imp (fun c=>⟨c0,hbo.1 c⟩) id,fun c=>c.imp (fun c=>hbo.2 c.2) id⟩)
   simp -dsimp only[go_sem,p0,p7,p8]
   refine aD (n:=146) [[],[0],[0,1],[0,1,2],[],[],[0,1,2,3,4,5]] (by simp -dsimp only[go_sem,hn1]) (ao (by kernel_rfl)) ?_
   simp -dsimp only[go_sem,p0,p7,p8,b5,q1,q2,q3,hr]
   exact q4
  ·have cn:decide ((n:Int)=0)=false:=dcF (by omega)
   simp -dsimp only[go_sem,g0,g1,g2,c1,c2,c3,c4,c5,cn,l0,ai]
   refine ⟨_,h9,hs9,?_⟩
   simp -dsimp only[go_sem,g0,g1,g2,m2,ik2,hkv]
   refine ql (l:=ps) (base:=false) hkl hkb K9 hb9 M9 hS T9 hka hld (by simp -dsimp only[go_sem,hn]) (by simp -dsimp only[go_sem,g0]) (by simp -dsimp only[go_sem,g2]) (by simp -dsimp only[go_sem];rfl) (by simp -dsimp only[go_sem]) (by simp -dsimp only[go_sem]) (by simp -dsimp only[go_sem]) (by simp -dsimp only[go_sem]) (fun a1 h10 l10 is hn1 X10 M10 S10 iff10 p0 p7 p8 => ?_)
   obtain ⟨o,q1,q2,q3,q4⟩:=fin h10 l10 is (X9.toS.trans X10) M10 S10 (by
    rw[iff10,vH hd]
    exact ⟨fun c=>c.imp (fun c=>(by cases c)) id,fun c=>c.imp (fun c=>absurd c.1 c0) id⟩)
   simp -dsimp only[go_sem,p0,p7,p8]
   refine aD (n:=146) [[],[0],[0,1],[0,1,2],[],[],[0,1,2,3,4,5]] (by simp -dsimp only[go_sem,hn1]) (ao (by kernel_rfl)) ?_
   simp -dsimp only[go_sem,p0,p7,p8,b5,q1,q2,q3,hr]
   exact q4
end
section
variable {r:Ro} {n0 f0 mb bk m eb sm tm:Nat} {FT:Nat->Nat} {Gv lv rv xr xl:Value} {tbl:Tbl} {G:List ar} {em:List Bool} {rks:List Nat} {S:Nat->Prop} {rk:Nat->Nat} {most cap:Nat} {made:List (List Tx)}
theorem nh {em:ByteArray->Bool} {d t:ByteArray} {l:List ad} {x:ad} {s:ByteArray} (hx:x∈l) (h:¬d.data.toList=[115,101,113]\/l=[x]) (hs:stM em x s):stM em ⟨d,t,l⟩ s:=by
 rw[stM]
 right
 by_cases c:d.data.toList=[115,101,113]
 ·rw[h.resolve_left (fun q=>q c),stL]
  exact .inl hs
 ·rw[dcF c]
  exact vF l x s hx hs
theorem jC {G:List ar} {i:Nat} {x:ar} (h:G[i]? = some x):aZ G i=x.body:=by
 unfold aZ
 rw[h]
theorem Cs (Kx:Mkx G most cap made em S rk) (hnG:∀(i:Nat) (x:ar),G[i]? = some x->ay (nms G) x.body=true) (hmost:most<4611686018427387904)
  (hnum:∀(i:Nat) (x:ar),G[i]? = some x->∃k,rks[i]? = some k/\Num tbl k x.body) :
  ∀n,n<=most->∀(q k:Nat) (p:ad),Num tbl k p->plP S (ae (nms G)) p->ay (nms G) p=true->(∀t,stM (emf (nms G) em) p t->rk (ae (nms G) t)<q) ->
   gm (RM (nms G) made) r G n0 f0 FT mb bk m eb em Gv lv rv xr xl sm tm tbl rks n k p:=by
 have hnl:(nms G).length=G.length:=by simp[nms]
 intro n
 induction n using Nat.strongRecOn with
 | _ n ihn =>
 intro hnm q
 have less:∀j,j<n->∀(k:Nat) (p:ad),Num tbl k p->plP S (ae (nms G)) p->ay (nms G) p=true->gm (RM (nms G) made) r G n0 f0 FT mb bk m eb em Gv lv rv xr xl sm tm tbl rks j k p:=fun j hj k p hN hp hr =>
  ihn j hj (by omega) (G.length+1) k p hN hp hr (fun t _=>by have:=Kx.rkn (ae (nms G) t);omega)
 induction q using Nat.strongRecOn with
 | _ q ihq =>
 intro k p hN
 induction hN with
 | @two k d t x y l a b hd hget ha hb iha ihb =>
   intro hp hr hst
   have hpl:=li hp
   have hrl:=iv hr
   obtain ⟨hrx,hry⟩:=fm hrl
   have hpx:plP S (ae (nms G)) x:=by rw[plL] at hpl;exact hpl.1
   have hpy:plL S (ae (nms G)) (y::l):=by rw[plL] at hpl;exact hpl.2
   have sx:∀s,stM (emf (nms G) em) x s->stM (emf (nms G) em) ⟨d,t,x::y::l⟩ s:=fun s hs=>by
    rw[stM,stL]
    exact .inr (.inl hs)
   have sy:cD (emf (nms G) em) x=true->∀s,stM (emf (nms G) em) ⟨dx,noT,y::l⟩ s->stM (emf (nms G) em) ⟨d,t,x::y::l⟩ s:=fun hm s hs=>by
    rw[stM] at hs
    rw[stM,stL,dcT hd]
    rcases hs with ⟨c,_⟩|hs
    ·exact absurd c (by decide)
    ·rw[show decide (dx.data.toList=[115,101,113])=true from rfl] at hs
     exact .inr (.inr ⟨by rw[hm];rfl,hs⟩)
   refine sZ (by omega) (.two hd hget ha hb) hget (.inr (.inr (.inr (.inl ⟨hd,x,y,l,rfl⟩)))) (fun c=>by rw[hd] at c;exact absurd c (by decide)) (fun _ x' y' l' e => ?_) (fun c=>by rw[hd] at c;exact absurd c (by decide)) (fun c => ?_)
   ·simp only[List.cons.injEq] at e
    obtain ⟨rfl,rfl,rfl⟩:=e
    refine ⟨a,b,rfl,fun j hj => ?_,fun j hj haq => ?_⟩
    ·by_cases e:j=n
     ·subst e
      exact iha hpx hrx (fun s hs=>hst s (sx s hs))
     ·exact less j (by omega) a x ha hpx hrx
    ·by_cases e:j=0
     ·subst e
      obtain ⟨w,hw,hm⟩:=haq
      rw[List.length_eq_zero_iff.1 hw] at hm
      have hmb:=jz x hpx (fun s _ hS hR=>Kx.emOk s hS hR) hm
      exact ihb (lh hpy) (gf hry) (fun s hs=>hst s (sy hmb s hs))
     ·exact less (n - j) (by omega) b _ hb (lh hpy) (gf hry)
   ·rcases c with c|c|c
    ·rw[show d.data.toList=_ from c] at hd;exact absurd hd (by decide)
    ·rw[show d.data.toList=_ from c] at hd;exact absurd hd (by decide)
    ·exact absurd c.2 (by simp)
 | @kids k d t l ks hd hget hl hk ih =>
   intro hp hr hst
   have hpl:=li hp
   have hrl:=iv hr
   have hkd:=zr hr hp
   refine sZ (by omega) (.kids hd hget hl hk) hget hkd (fun c => ?_) (fun c x y l' e=>absurd ⟨c,by rw[e];simp⟩ hd) (fun c x e => ?_) (fun c=>⟨hl,fun i c' x e1 e2 => ?_⟩)
   ·have hS:S (ae (nms G) t):=by
     rw[plP] at hp
     exact hp.2.1 c
    have hlt:=Kx.lt _ hS
    obtain ⟨k',w1,w2⟩:=hnum _ _ (gEl hlt)
    have hbd:=jC (gEl hlt)
    have hpb:=Kx.pl _ hS
    refine ⟨k',aZ G (ae (nms G) t),w1,ihq (rk (ae (nms G) t)) (hst t (by rw[stM];exact .inl ⟨c,rfl⟩)) k' _ (by rw[hbd];exact w2) hpb (fa hnG hlt) (fun s hs=>Kx.rank _ s hS (zp _ s hpb hs) hs),?_⟩
    constructor
    ·rintro ⟨w,h1,h2⟩
     exact ⟨w,h1,((Kx.iff hS w).1 ((jB c w).1 h2)).2⟩
    ·rintro ⟨w,h1,h2⟩
     exact ⟨w,h1,(jB c w).2 ((Kx.iff hS w).2 ⟨by omega,h2⟩)⟩
   ·subst e
    have ns:¬d.data.toList=[115,101,113]:=by rw[c];decide
    obtain ⟨ka,rfl⟩:∃ka,ks=[ka]:=List.length_eq_one_iff.1 hl
    have hpx:plP S (ae (nms G)) x:=iu _ _ (.head _) hpl
    have hrx:=gd hrl x (.head _)
    refine ⟨ka,rfl,fun j hj => ?_,fun j hj h0 => ?_⟩
    ·by_cases e:j=n
     ·subst e
      exact ih 0 ka x rfl rfl hpx hrx (fun s hs=>hst s (nh (.head _) (.inl ns) hs))
     ·exact less j (by omega) ka x (hk 0 ka x rfl rfl) hpx hrx
    ·exact less (n - j) (by omega) k _ (.kids hd hget hl hk) hp hr
   ·have hx:=mOg e2
    refine ih i c' x e1 e2 (iu _ _ hx hpl) (gd hrl x hx) (fun s hs=>hst s (nh hx ?_ hs))
    rcases c with c|c|c
    ·left;rw[show d.data.toList=_ from c];decide
    ·left;rw[show d.data.toList=_ from c];decide
    ·right
     obtain ⟨z,e⟩:=List.length_eq_one_iff.1 c.2
     have e:l=[z]:=e
     subst e
     rw[List.mem_singleton] at hx
     rw[hx]
end
section
variable {h h1 h2:Hp} {B F:Nat->Prop}
def OwnA (h:Hp) (n0 f0:Nat) (v:Value) (ps:Prs) (B F:Nat->Prop):Prop:=(ps=[]/\v=.slice none 0 0)\/∃b f js,v=.slice (some ⟨b,0,none⟩) ps.length (ps.length+js.length)/\bX 34 h b (aX ps++js) f/\n0<=b/\(f≠0->f0<=f)/\B b/\(f≠0->F f)
structure WideC (h:Hp) (B F B' F':Nat->Prop):Prop where
 b:∀b,B b->B' b
 nb:∀b,b<h.next->B' b->B b
 f:∀f,F f->F' f
 nf:∀f,F' f->F f\/(f≠0/\h.nfam<=f)
theorem WideC.refl (h:Hp) (B F:Nat->Prop):WideC h B F B F:=⟨fun _ c=>c,fun _ _ c=>c,fun _ c=>c,fun _ c=>.inl c⟩
theorem OwnC.toA {n0 f0:Nat} {v:Value} {ps:Prs} (k:OwnC h1 n0 f0 v ps) (hn:h.next<=n0) (hf:h.nfam<=f0):∃B' F',WideC h B F B' F'/\(∀b,B' b->B b\/b<h1.next)/\(∀f,F' f->F f\/(f≠0/\f<h1.nfam))/\OwnA h1 n0 f0 v ps B' F':=by
 rcases k with k|⟨b,f,js,e,hr,hb,hf0⟩
 ·exact ⟨B,F,WideC.refl _ _ _,fun b c=>.inl c,fun f c=>.inl c,.inl k⟩
 ·refine ⟨fun y=>B y\/y=b,fun q=>F q\/(q=f/\f≠0),⟨fun _ c=>.inl c,fun y hy c=>c.elim id (fun c => ?_),fun _ c=>.inl c,fun q c=>c.elim .inl (fun c=>.inr ⟨by rw[c.1];exact c.2,?_⟩)⟩,fun y c=>c.elim .inl (fun c=>.inr (by rw[c];exact hr.lt)),fun q c=>c.elim .inl (fun c=>.inr (by rw[c.1];exact ⟨c.2,hr.fl c.2⟩)),.inr ⟨b,f,js,e,hr,hb,hf0,.inr rfl,fun c=>.inr ⟨rfl,c⟩⟩⟩
  ·omega
  ·have:=hf0 c.2
   omega
structure AppC (h:Hp) (n0 f0:Nat) (B F:Nat->Prop) (h':Hp) (B' F':Nat->Prop):Prop where
 keep:KeepE B F h h'
 wide:WideC h B F B' F'
 ext:∀(S:Nat->Prop) (h0:Hp),ExtS S h0 h->h0.next<=n0->h0.nfam<=f0->ExtS S h0 h'
 objs:∀y,y<n0->h'.objs.get y=h.objs.get y
 lt:∀b,B' b->B b\/b<h'.next
 ltf:∀f,F' f->F f\/(f≠0/\f<h'.nfam)
theorem Ct {v x u:Value} {n0 f0:Nat} {ps:Prs} {t:Tx} (k:OwnA h n0 f0 v ps B F) (hx:l6 h x [u]) (hone:[u].all oneCell=true) (hb:h.base<=h.next) (hn0:n0<=h.next) (hf0:f0<=h.nfam) (hsz:ps.length+1<=1000000) :
  ∃v' h' B' F',bt Tryz.prog h [27,27] [v,x]=some (v',h')/\OwnA h' n0 f0 v' (ps++[(u,t)]) B' F'/\AppC h n0 f0 B F h' B' F':=by
 obtain ⟨hln,hf1⟩:=hx
 have hln:d7 x=some 1:=hln
 have hf1:bS h 1 1 x=some [u]:=hf1
 have hfu:∀(ps:Prs),aX (ps++[(u,t)])=aX ps++[u]:=fun ps=>by simp[aX]
 rcases k with ⟨rfl,rfl⟩|⟨b,f,js,rfl,hr,hb0,hf,hB,hF⟩
 ·have hx0:=Ext.new h (ak.cells ⟨[u],34,0,0,true⟩)
  refine ⟨.slice (some ⟨h.next,0,none⟩) 1 1,h.newH (ak.cells ⟨[u],34,0,0,true⟩),fun y=>B y\/y=h.next,F,?_,?_,?_⟩
  ·rw[cQ Tryz.underlying27 eJ oy ⟨rfl,by decide⟩ (by kernel_rfl) h (len:=0) (cap:=0) (n:=1) hln hf1 (by omega) (lRf _) hone (by simp) (by kernel_rfl)]
   have:Nat.ble (0+1) 0=false:=dX (by omega)
   simp only[apd,this,Hp.grownRow,lG]
  ·refine .inr ⟨h.next,0,[],by simp,⟨hb,lSs _,⟨0,true,?_⟩,fun e=>absurd rfl e⟩,hn0,fun e=>absurd rfl e,.inr rfl,fun e=>absurd rfl e⟩
   simp only[Hp.row,cW,if_true]
   rfl
  ·exact ⟨(bT hx0).wide (fun _ _ c=>c.elim) (fun _ c=>c.elim),⟨fun _ c=>.inl c,fun y hy c=>c.elim id (fun c=>by omega),fun _ c=>c,fun _ c=>.inl c⟩,fun S h0 q _ _=>q.trans hx0.toS,fun y hy=>hx0.objs y (by omega),fun y c=>c.elim .inl (fun c=>.inr (by rw[c];exact lSs _)),fun _ c=>.inl c⟩
 ·cases js with
  | cons j js =>
    have hble:Nat.ble (ps.length+1) (ps.length+(j::js).length)=true:=by simp
    have hsp:=dO (aX ps) [j] js [u] rfl
    rw[bD,List.append_assoc] at hsp
    obtain ⟨h',hs1,hr1,hto⟩:=er hr hone hsp
    refine ⟨.slice (some ⟨b,0,none⟩) (ps.length+1) (ps.length+(j::js).length),h',B,F,?_,.inr ⟨b,f,js,?_,by rw[hfu];exact hr1,hb0,hf,hB,hF⟩,hto.keep.wide (fun y _ c=>by rw[show y=b from c];exact hB) (fun q c=>by rw[c.1] at *;exact hF (by have:=c.2;omega)),WideC.refl _ _ _,fun S h0 q q1 q2=>hto.ext q (by omega) (fun c=>by have:=hf c;omega),fun y hy=>hto.objs y (by omega),fun _ c=>.inl c,fun _ c=>.inl c⟩
    ·rw[cQ Tryz.underlying27 eJ oy ⟨rfl,by decide⟩ (by kernel_rfl) h (len:=ps.length) (cap:=ps.length+(j::js).length) (n:=1) hln hf1 (by omega) (by omega) hone (by simp) (by kernel_rfl)]
     have hadd:(⟨b,0,none⟩:Addr).add (ps.length*1)=⟨b,ps.length,none⟩:=by
      simp[Addr.add]
      intro e
      rw[e]
      rfl
     simp only[apd,hble,hadd,hs1]
    ·simp
     omega
  | nil =>
    have hr:bX 34 h b (aX ps) f:=by rw[List.append_nil] at hr;exact hr
    obtain ⟨bs,g,hrow⟩:=hr.row
    have hpl:(aX ps).length=ps.length:=bD _
    have hld:h.loads ⟨b,0,none⟩ (ps.length*1)=some (aX ps):=by
     rw[cB hr,List.drop_zero,Nat.mul_one,<-hpl]
     exact dB _
    have hc:Nat.ble (ps.length+1) ps.length=false:=dX (by omega)
    have hbeq:Nat.beq 34 34=true:=rfl
    have happ:bt Tryz.prog h [27,27] [.slice (some ⟨b,0,none⟩) ps.length (ps.length+([]:List Value).length),x]=apd h 34 1 (some ⟨b,0,none⟩) ps.length ps.length 1 [u] :=
     cQ Tryz.underlying27 eJ oy ⟨rfl,by decide⟩ (by kernel_rfl) h (len:=ps.length) (cap:=ps.length) (n:=1) hln hf1 (by omega) (lRf _) hone (by simp) (by kernel_rfl)
    have fin:∀(f':Nat) (h':Hp),apd h 34 1 (some ⟨b,0,none⟩) ps.length ps.length 1 [u]=some (.slice (some ⟨h.next,0,none⟩) (ps.length+1) (ps.length+1),h')->bX 34 h' h.next (aX ps++[u]) f'->((f'=f/\f≠0)\/f'=h.nfam)->h'.base=h.base->h'.ro=h.ro->h'.next=h.next+1->h.nfam<=h'.nfam->(f'≠0->f'<h'.nfam) ->
      (∀y,y<h.next->y≠b->h'.objs.get y=h.objs.get y)->(∀q,q<h.nfam->¬(q=f/\f≠0)->h'.fams.get q=h.fams.get q) ->
      ∃v' h' B' F',bt Tryz.prog h [27,27] [.slice (some ⟨b,0,none⟩) ps.length (ps.length+([]:List Value).length),x]=some (v',h')/\OwnA h' n0 f0 v' (ps++[(u,t)]) B' F'/\AppC h n0 f0 B F h' B' F':=by
     intro f' h' a1 a2 a3 e1 e2 e3 e4 e4b e5 e6
     have hf':f'≠0->f0<=f':=by
      intro c
      rcases a3 with ⟨rfl,q⟩|rfl
      ·exact hf q
      ·exact hf0
     refine ⟨_,h',fun y=>B y\/y=h.next,fun q=>F q\/(q=f'/\f'≠0),by rw[happ,a1],.inr ⟨h.next,f',[],by simp,by rw[hfu,List.append_nil];exact a2,hn0,hf',.inr rfl,fun c=>.inr ⟨rfl,c⟩⟩,?_,⟨fun _ c=>.inl c,fun y hy c=>c.elim id (fun c=>by omega),fun _ c=>.inl c,fun q c=>c.elim .inl (fun c => ?_)⟩,?_,fun y hy=>e5 y (by omega) (by omega),fun y c=>c.elim .inl (fun c=>.inr (by omega)),fun q c=>c.elim .inl (fun c=>.inr (by rw[c.1];exact ⟨c.2,e4b c.2⟩))⟩
     ·refine ⟨e1,e2,by omega,e4,fun e' b' cs' f'' k hb' hf'' => ?_⟩
      have hbb:b'≠b:=fun c=>hb' (by rw[c];exact hB)
      obtain ⟨bs',g',hr'⟩:=k.row
      refine ⟨by rw[e1];exact k.lo,by have:=k.lt;omega,⟨bs',g',iZ hr' (e5 b' k.lt hbb) (fun h0=>e6 f'' (k.fl h0) (fun c => ?_))⟩,fun c=>lTl (k.fl c) e4⟩
      exact hf'' (by rw[c.1];exact hF c.2)
     ·rcases a3 with ⟨q1,q2⟩|q1
      ·left;rw[c.1,q1];exact hF q2
      ·right;rw[c.1];exact ⟨c.2,by omega⟩
     ·intro S h0 q q1 q2
      refine ⟨e1.trans q.base,e2.trans q.ro,by have:=q.next;omega,fun y hy hs' => ?_,lTr q.nfam e4,fun y hy => ?_⟩
      ·rw[e5 y (by have:=q.next;omega) (by omega)]
       exact q.objs y hy hs'
      ·rw[e6 y (by have:=q.nfam;omega) (fun c=>by have:=hf c.2;omega)]
       exact q.fams y hy
    by_cases hfe:f=0
    ·subst hfe
     refine fin h.nfam { h with
      objs:=(h.objs.put b (.cells ⟨aX ps,34,h.nfam,bs,g⟩)).put h.next (.cells ⟨aX ps++[u],34,h.nfam,bs+0,true⟩)
      next:=h.next+1
      fams:=h.fams.put h.nfam (⟨h.next,bs+0,bs+0+(aX ps++[u]).length⟩::ma b bs (bs+(aX ps).length) (bs+0+ps.length*1))
      nfam:=h.nfam+1 } ?_ ?_ (.inr rfl) rfl rfl rfl (Nat.le_succ _) (fun _=>lSs _) ?_ ?_
     ·simp only[apd,hc,hrow,hld,gH,hbeq]
     ·refine ⟨by have:=hr.lo;have:=hr.lt;show h.base<=h.next;omega,lSs _,⟨bs+0,true,?_⟩,fun _=>lSs _⟩
      simp only[Hp.row,Tr.get_put,if_true]
      cases hnf:h.nfam with
      | zero=>rfl
      | succ q=>simp only[Tr.get_put,if_true,List.any_cons,dW,Bool.true_or]
     ·intro x hx hxb
      simp only[Tr.get_put,if_neg (Nat.ne_of_lt hx),if_neg hxb]
     ·intro q hq _
      simp only[Tr.get_put,if_neg (Nat.ne_of_lt hq)]
    ·obtain ⟨q0,rfl⟩:∃q0,f=q0+1:=⟨f - 1,by omega⟩
     obtain ⟨l,hl0⟩:=oU hr hfe
     refine fin (q0+1) { h with
      objs:=h.objs.put h.next (.cells ⟨aX ps++[u],34,q0+1,bs+0,true⟩)
      next:=h.next+1
      fams:=h.fams.put (q0+1) (⟨h.next,bs+0,bs+0+(aX ps++[u]).length⟩::l.filter fun m=>Nat.ble m.hi (bs+0+ps.length*1)) } ?_ ?_ (.inl ⟨rfl,by omega⟩) rfl rfl rfl (lRf _) (fun c=>hr.fl c) ?_ ?_
     ·simp only[apd,hc,hrow,hld,gH,hbeq,hl0]
     ·refine ⟨by have:=hr.lo;have:=hr.lt;show h.base<=h.next;omega,lSs _,⟨bs+0,true,?_⟩,fun e=>hr.fl e⟩
      simp only[Hp.row,Tr.get_put,if_true,List.any_cons,dW,Bool.true_or]
     ·intro x hx _
      simp only[Tr.get_put,if_neg (Nat.ne_of_lt hx)]
     ·intro q hq hqf
      have:¬q=q0+1:=fun e=>hqf ⟨e,by omega⟩
      simp only[Tr.get_put,if_neg this]
end
section
variable {h h1 h2:Hp} {B F B' F' B2 F2:Nat->Prop} {R:ByteArray->Tx->Prop} {tbl:Tbl} {sm tm n0 f0:Nat}
theorem vI {h:Hp} {v:Value} {ss:Tx} (k:TxV h v ss) (hb:h.base<=h.next) (hl:ss.length<=100000):∃w h1,Snd Tryz.prog 29 [v] h w h1/\Ext h h1/\OwnZ 9 h1 h.next h.nfam (dw ss) w:=by
 have k':=k
 refine aL wf Tryz.func29 rfl rfl (n:=8) rfl (by kernel_rfl) rfl ?_
 intro a hn hg
 have hr:Tryz.f29.results.toList=[.tmp 2]:=rfl
 have g0:=hg 0
 clear hg
 simp only[gC0,gC1] at g0
 rcases k with ⟨e,rfl⟩|⟨b,f,rfl,hrow,_,_⟩
 ·have k1:be Tryz.prog h .eql 34 (.tmp 3) (.const (.slice none 0 0)) (.slice none 0 0) (.slice none 0 0)=some (.bool true):=by
   first|rfl|simp[be,eqv,Tryz.underlying34]
  simp -dsimp only[go_sem,g0,k1,hr]
  exact ⟨Ext.refl _,.inl ⟨e,rfl⟩⟩
 ·have k1:∀A:Addr,∀n c,be Tryz.prog h .eql 34 (.tmp 3) (.const (.slice none 0 0)) (.slice (some A) n c) (.slice none 0 0)=some (.bool false):=by
   intro A n c
   first|rfl|simp[be,eqv,Tryz.underlying34]
  have hx1:=Ext.new h (ak.cells ⟨[],9,0,0,false⟩)
  have hZ0:OwnZ 9 (h.newH (ak.cells ⟨[],9,0,0,false⟩)) h.next h.nfam [] (.slice (some ⟨h.next,0,none⟩) 0 0) :=
   .inr ⟨h.next,0,rfl,⟨hb,lSs _,⟨0,false,by simp only[Hp.row,cW,if_true]⟩,fun e=>absurd rfl e⟩,lRf _,fun e=>absurd rfl e⟩
  have hb1:=Nat.le_succ_of_le (m:=h.next) hb
  obtain ⟨v2,H2,p2,o2,⟨x2,_⟩,_⟩:=rp (jq ss) hZ0 (OwnZ.ext hx1 k').src hb1 hx1.next hx1.nfam (by simp only[cp,List.length_nil];omega)
  have z2:Ext h H2:=(x2 (fun _=>False) h hx1.toS (lRf _) (lRf _)).ext (fun _ _ c=>c)
  simp -dsimp only[go_sem,g0,k1,xG 0 (by decide),aC,bP,p2,hr]
  rw[List.nil_append] at o2
  exact ⟨z2,o2⟩
theorem WideC.trans (x:WideC h B F B' F') (y:WideC h1 B' F' B2 F2) (hn:h.next<=h1.next) (hf:h.nfam<=h1.nfam):WideC h B F B2 F2 :=
 ⟨fun b c=>y.b b (x.b b c),fun b hb c=>x.nb b hb (y.nb b (by omega) c),fun f c=>y.f f (x.f f c),fun f c=>(y.nf f c).elim (x.nf f) (fun c=>.inr ⟨c.1,by omega⟩)⟩
theorem AppC.ofExt (x:Ext h h1) (hn:n0<=h.next):AppC h n0 f0 B F h1 B F :=
 ⟨(bT x).wide (fun _ _ c=>c.elim) (fun _ c=>c.elim),WideC.refl _ _ _,fun S h0 q _ _=>q.trans x.toS,fun y hy=>x.objs y (by omega),fun _ c=>.inl c,fun _ c=>.inl c⟩
theorem KeepE.up (x:KeepE B F h h1) (w:WideC h B F B' F'):KeepE B' F' h h1:=x.wide (fun b _ c=>w.b b c) (fun f c=>w.f f c)
theorem AppC.trans (x:AppC h n0 f0 B F h1 B' F') (y:AppC h1 n0 f0 B' F' h2 B2 F2):AppC h n0 f0 B F h2 B2 F2:=by
 refine ⟨?_,x.wide.trans y.wide x.keep.next x.keep.nfam,fun S h0 q q1 q2=>y.ext S h0 (x.ext S h0 q q1 q2) q1 q2,fun b hb=>(y.objs b hb).trans (x.objs b hb),fun b c=>(y.lt b c).elim (fun c=>(x.lt b c).imp id (fun c=>lTl c y.keep.next)) .inr,fun f c=>(y.ltf f c).elim (fun c=>(x.ltf f c).imp id (fun c=>⟨c.1,lTl c.2 y.keep.nfam⟩)) .inr⟩
 refine ⟨y.keep.base.trans x.keep.base,y.keep.ro.trans x.keep.ro,lTr x.keep.next y.keep.next,lTr x.keep.nfam y.keep.nfam,fun e b cs f k hb hf => ?_⟩
 have k1:=x.keep.rows e b cs f k hb hf
 refine y.keep.rows e b cs f k1 (fun c=>hb (x.wide.nb b k.lt c)) (fun c => ?_)
 rcases x.wide.nf f c with c|c
 ·exact hf c
 ·have:=k.fl c.1;omega
theorem TxK.step (x:KeepE B F h h1) (w:WideC h B F B' F') {v:Value} {ss:Tx} (k:TxK h B F v ss):TxK h1 B' F' v ss :=
 (k.more w.nb w.nf).keep (x.up w)
theorem PrK.step (x:KeepE B F h h1) (w:WideC h B F B' F') {ps:Prs} (k:PrK h B F ps):PrK h1 B' F' ps:=fun p hp=>(k p hp).step x w
theorem LK.step (x:KeepE B F h h1) (w:WideC h B F B' F') {v:Value} {ps:Prs} (k:LK h B F v ps):LK h1 B' F' v ps :=
 (k.more w.nb w.nf).keep (x.up w)
def GoodL (R:ByteArray->Tx->Prop) (h:Hp) (B F:Nat->Prop) (p:ad) (n:Nat) (v:Value):Prop:=∃ps:Prs,LK h B F v ps/\PrK h B F ps/\aQ (aK ps)/\∀t,t∈aK ps<->t.length=n/\mkM R p t
theorem GoodL.step (x:KeepE B F h h1) (w:WideC h B F B' F') {p:ad} {n:Nat} {v:Value} (k:GoodL R h B F p n v):GoodL R h1 B' F' p n v:=by
 obtain ⟨ps,k1,k2,k3⟩:=k
 exact ⟨ps,k1.step x w,k2.step x w,k3⟩
theorem GoodL.less {p:ad} {n:Nat} {v:Value} (k:GoodL R h B' F' p n v) (hB:∀b,B b->B' b) (hF:∀f,F f->F' f):GoodL R h B F p n v:=by
 obtain ⟨ps,k1,k2,k3⟩:=k
 exact ⟨ps,k1.more (fun b _ c=>hB b c) (fun f c=>.inl (hF f c)),k2.more (fun b _ c=>hB b c) (fun f c=>.inl (hF f c)),k3⟩
def TmOk (R:ByteArray->Tx->Prop) (tbl:Tbl) (h:Hp) (B F:Nat->Prop) (l:fb):Prop:=∀(k n:Nat) (v:Value) (p:ad),(k,n,v)∈l->Num tbl k p->GoodL R h B F p n v
theorem TmOk.step (x:KeepE B F h h1) (w:WideC h B F B' F') {l:fb} (k:TmOk R tbl h B F l):TmOk R tbl h1 B' F' l:=fun a b c d e f=>(k a b c d e f).step x w
theorem TmOk.less {l:fb} (k:TmOk R tbl h B' F' l) (hB:∀b,B b->B' b) (hF:∀f,F f->F' f):TmOk R tbl h B F l:=fun a b c d e f=>(k a b c d e f).less hB hF
def Two (sm tm:Nat):Nat->Prop:=fun b=>b=sm\/b=tm
theorem jQ (x:ExtS (Two sm tm) h h1) (i1:IsMap h sm) (i2:IsMap h tm):KeepE B F h h1 :=
 ⟨x.base,x.ro,x.next,x.nfam,fun e b cs f k _ _=>bR x k (fun c=>by
  rcases c with c|c
  ·rw[c] at k;exact i1.row k
  ·rw[c] at k;exact i2.row k)⟩
theorem OwnA.ext (x:Ext h h1) {v:Value} {ps:Prs} (k:OwnA h n0 f0 v ps B F):OwnA h1 n0 f0 v ps B F:=by
 rcases k with k|⟨b,f,js,e,hr,q⟩
 ·exact .inl k
 ·exact .inr ⟨b,f,js,e,bR (x.toS (S:=fun _=>False)) hr (fun c=>c),q⟩
theorem OwnA.extM (x:ExtS (Two sm tm) h h1) (i1:IsMap h sm) (i2:IsMap h tm) {v:Value} {ps:Prs} (k:OwnA h n0 f0 v ps B F):OwnA h1 n0 f0 v ps B F:=by
 rcases k with k|⟨b,f,js,e,hr,q⟩
 ·exact .inl k
 ·exact .inr ⟨b,f,js,e,(jQ (B:=fun _=>False) (F:=fun _=>False) x i1 i2).rows _ _ _ _ hr (fun c=>c) (fun c=>c),q⟩
theorem OwnA.shape {v:Value} {ps:Prs} (k:OwnA h n0 f0 v ps B F):∃A c,v=.slice A ps.length c/\spotless A=true:=by
 rcases k with ⟨rfl,rfl⟩|⟨b,f,js,rfl,q⟩
 ·exact ⟨none,0,rfl,rfl⟩
 ·exact ⟨_,_,rfl,rfl⟩
theorem OwnA.toL {v:Value} {ps:Prs} (k:OwnA h n0 f0 v ps B F):LK h (fun _=>False) (fun _=>False) v ps:=by
 rcases k with k|⟨b,f,js,e,hr,q⟩
 ·exact .inl k
 ·exact .inr ⟨b,f,js,e,hr,fun c=>c,fun c=>c⟩
theorem PrK.any {ps:Prs} (k:PrK h B F ps):PrK h (fun _=>False) (fun _=>False) ps:=k.more (fun _ _ c=>c.elim) (fun _ c=>c.elim)
theorem zw {v vx vy:Value} {wx wy:Tx} {ps:Prs} (k:OwnA h n0 f0 v ps B F) (hp:PrK h B F ps) (hx:TxK h B F vx wx) (hy:TxK h B F vy wy) (hB:∀b,B b->b<h.next) (hF:∀f,F f->f≠0/\f<h.nfam) (hb:h.base<=h.next) (hn0:n0<=h.next) (hf0:f0<=h.nfam) (hwx:wx.length<=100000) (hwy:wy.length<=100000) (hsz:ps.length+1<=1000000) :
  ∃w1 h1 w2 h2 v' h4 B' F',Snd Tryz.prog 29 [vx] h w1 h1/\bt Tryz.prog h1 [34,34] [w1,vy]=some (w2,h2)/\bt Tryz.prog (h2.newH (.cells ⟨[w2],34,0,0,false⟩)) [27,27] [v,.slice (some ⟨h2.next,0,none⟩) 1 1]=some (v',h4) /\
   OwnA h4 n0 f0 v' (ps++[(w2,wx++wy)]) B' F'/\PrK h4 B' F' (ps++[(w2,wx++wy)])/\AppC h n0 f0 B F h4 B' F'/\(∃A c,w1=.slice A wx.length c)/\∃A,w2=.slice A (wx.length+wy.length) (wx.length+wy.length):=by
 obtain ⟨w1,h1,hs1,hx1,o1⟩:=vI hx.toV hb hwx
 have hb1:h1.base<=h1.next:=by rw[hx1.base];exact lTr hb hx1.next
 have hy1:TxV h1 vy wy:=(hy.toV).ext hx1
 obtain ⟨w2,h2,ha2,o2,⟨x2,_⟩,_⟩:=rp (jq wy) o1 hy1.src hb1 hx1.next hx1.nfam (by rw[cp,cp];omega)
 have hx2:Ext h h2:=(x2 (fun _=>False) h hx1.toS (lRf _) (lRf _)).ext (fun _ _ c=>c)
 have hb2:h2.base<=h2.next:=by rw[hx2.base];exact lTr hb hx2.next
 have o2:OwnZ 9 h2 h.next h.nfam (dw (wx++wy)) w2:=by
  have:dw (wx++wy)=dw wx++dw wy:=by simp[dw]
  rw[this];exact o2
 have hx3:=hx2.trans (Ext.new h2 (.cells ⟨[w2],34,0,0,false⟩))
 have hw3:=an hb2 34 [w2]
 have hx23:=Ext.new h2 (.cells ⟨[w2],34,0,0,false⟩)
 have hb3:(h2.newH (.cells ⟨[w2],34,0,0,false⟩)).base<=(h2.newH (.cells ⟨[w2],34,0,0,false⟩)).next:=Nat.le_succ_of_le hb2
 generalize hh3:h2.newH (.cells ⟨[w2],34,0,0,false⟩)=h3 at *
 have ht:TxK h2 B F w2 (wx++wy):=uG o2 hB hF
 have hone:[w2].all oneCell=true:=by
  have:=ht.toV.cell
  simpa using this
 have hA3:=OwnA.ext hx3 k
 obtain ⟨v',h4,B',F',p1,p2,p3⟩:=Ct (t:=wx++wy) hA3 (rq (n:=1) (c:=1) hw3 rfl) hone hb3 (lTr hn0 hx3.next) (lTr hf0 hx3.nfam) hsz
 refine ⟨w1,h1,w2,h2,v',h4,B',F',hs1,ha2,by rw[hh3];exact p1,p2,?_,(AppC.ofExt hx3 hn0).trans p3,?_,?_⟩
 ·refine PrK.app ((hp.keep (bT hx3 |>.wide (fun _ _ c=>c.elim) (fun _ c=>c.elim))).step p3.keep p3.wide) (fun q hq => ?_)
  rw[List.mem_singleton] at hq
  subst hq
  exact (ht.keep (bT hx23 |>.wide (fun _ _ c=>c.elim) (fun _ c=>c.elim))).step p3.keep p3.wide
 ·obtain ⟨A,e,_⟩:=o1.len
  exact ⟨A,_,by rw[e,cp]⟩
 ·obtain ⟨A,e,_⟩:=o2.len
  exact ⟨A,by rw[e,cp,List.length_append]⟩
end
section
variable {h h1 h2:Hp} {B F B' F' B2 F2 BS FS B8 F8:Nat->Prop} {R:ByteArray->Tx->Prop} {tbl:Tbl} {sm tm n0 f0:Nat} {hS h8:Hp}
structure LSt (R:ByteArray->Tx->Prop) (tbl:Tbl) (sm tm:Nat) (hS:Hp) (BS FS:Nat->Prop) (h:Hp) (B F:Nat->Prop) (v:Value) (ps:Prs):Prop where
 s:sm<hS.next
 t:tm<hS.next
 x:ExtS (Two sm tm) hS h
 w:WideC hS BS FS B F
 lt:∀b,B b->b<h.next
 ltf:∀f,F f->f≠0/\f<h.nfam
 m:∃l,MemAt h sm l/\dE R tbl l
 tk:∃l,MemAt h tm l/\TmOk R tbl h B F l
 a:OwnA h hS.next hS.nfam v ps B F
 p:PrK h B F ps
theorem LSt.app {v v':Value} {ps ps':Prs} (L:LSt R tbl sm tm hS BS FS h B F v ps) (k:AppC h hS.next hS.nfam B F h1 B' F') (A:OwnA h1 hS.next hS.nfam v' ps' B' F') (P:PrK h1 B' F' ps'):LSt R tbl sm tm hS BS FS h1 B' F' v' ps':=by
 obtain ⟨l,m1,m2⟩:=L.m
 obtain ⟨l2,t1,t2⟩:=L.tk
 refine ⟨L.s,L.t,k.ext _ _ L.x (lRf _) (lRf _),L.w.trans k.wide L.x.next L.x.nfam,fun b c=>(k.lt b c).elim (fun c=>lTl (L.lt b c) k.keep.next) id,fun f c=>(k.ltf f c).elim (fun c=>⟨(L.ltf f c).1,lTl (L.ltf f c).2 k.keep.nfam⟩) id,⟨l,⟨lTl m1.1 k.keep.next,by rw[k.objs sm L.s];exact m1.2⟩,m2⟩,⟨l2,⟨lTl t1.1 k.keep.next,by rw[k.objs tm L.t];exact t1.2⟩,t2.step k.keep k.wide⟩,A,P⟩
theorem LSt.ext {v:Value} {ps:Prs} (L:LSt R tbl sm tm hS BS FS h B F v ps) (x:Ext h h1):LSt R tbl sm tm hS BS FS h1 B F v ps :=
 L.app (AppC.ofExt x L.x.next) (OwnA.ext x L.a) (L.p.keep ((bT x).wide (fun _ _ c=>c.elim) (fun _ c=>c.elim)))
theorem LSt.bn {v:Value} {ps:Prs} (L:LSt R tbl sm tm hS BS FS h B F v ps) (hb:hS.base<=hS.next):h.base<=h.next:=L.x.bn hb
theorem LSt.i1 {v:Value} {ps:Prs} (L:LSt R tbl sm tm hS BS FS h B F v ps):IsMap h sm:=L.m.elim fun _ q=>q.1.isMap
theorem LSt.i2 {v:Value} {ps:Prs} (L:LSt R tbl sm tm hS BS FS h B F v ps):IsMap h tm:=L.tk.elim fun _ q=>q.1.isMap
theorem LSt.call {v:Value} {ps:Prs} (L:LSt R tbl sm tm hS BS FS h B F v ps) (x:ExtS (Two sm tm) h h1) (m:∃l,MemAt h1 sm l/\dE R tbl l) (tk:∃l,MemAt h1 tm l/\TmOk R tbl h1 B F l):LSt R tbl sm tm hS BS FS h1 B F v ps :=
 ⟨L.s,L.t,L.x.trans x,L.w,fun b c=>lTl (L.lt b c) x.next,fun f c=>⟨(L.ltf f c).1,lTl (L.ltf f c).2 x.nfam⟩,m,tk,OwnA.extM x L.i1 L.i2 L.a,L.p.keep (jQ x L.i1 L.i2)⟩
def KeptY (a a1:Ev.A):Prop:=a1.get 0=a.get 0/\a1.get 1=a.get 1/\a1.get 2=a.get 2/\a1.get 7=a.get 7/\a1.get 10=a.get 10/\a1.get 12=a.get 12/\a1.get 13=a.get 13/\a1.get 15=a.get 15/\a1.get 103=a.get 103/\a1.get 104=a.get 104/\a1.get 105=a.get 105
theorem KeptY.refl (a:Ev.A):KeptY a a:=⟨rfl,rfl,rfl,rfl,rfl,rfl,rfl,rfl,rfl,rfl,rfl⟩
theorem C2 {v8 vx vys:Value} {wx:Tx} {ps8 ys:Prs} (hbS:hS.base<=hS.next) (L:LSt R tbl sm tm hS BS FS h8 B8 F8 v8 ps8) (hx:TxK h8 B8 F8 vx wx) (hys:LK h8 B8 F8 vys ys) (hpy:PrK h8 B8 F8 ys) (hwx:wx.length<=100000) (hwy:∀p∈ys,p.2.length<=100000) (hsz:ps8.length+ys.length<=1000000)
  {a:Ev.A} {Q:Ex->Ev.A->Hp->Prop} (hna:a.n=200) (g11:a.get 11=v8) (g17:a.get 17=vx) (g114:a.get 114=vys) (g115:a.get 115=.int .i64 (ys.length:Int)) (g116:a.get 116=.int .i64 0)
  (hq:∀(a1:Ev.A) (h9:Hp) (B9 F9:Nat->Prop) (v9:Value) (qs:Prs),a1.n=200->LSt R tbl sm tm hS BS FS h9 B9 F9 v9 (ps8++qs)->aK qs=(aK ys).map (wx ++ ·)->KeepE B8 F8 h8 h9->WideC h8 B8 F8 B9 F9->KeptY a a1->a1.get 11=v9->Q (.exit 5) a1 h9) :
  Th Tryz.prog (aw Tryz.f28 [1,1,1,1,1,0,1,0,1,1,1,1,1,1,1,1,1,0,1,0,0,1,0,0,1,1,0,0,1,1,0,0,1,0,1,0]) a h8 Q ⟨⟩ ⟨⟩:=by
 simp only[aw,nav,Tryz.f28]
 refine au (n:=200) (by kernel_rfl) (fun m' a' h'=>∃(i:Nat) (B' F':Nat->Prop) (v':Value) (qs:Prs),i<=ys.length/\m'=ys.length - i/\LSt R tbl sm tm hS BS FS h' B' F' v' (ps8++qs)/\qs.length=i/\aK qs=(aK (ys.take i)).map (wx ++ ·)/\KeepE B8 F8 h8 h'/\WideC h8 B8 F8 B' F'/\KeptY a a' /\
   a'.get 11=v'/\a'.get 17=vx/\a'.get 114=vys/\a'.get 115=.int .i64 (ys.length:Int)/\a'.get 116=.int .i64 (i:Int)) ?_ _ _ _ hna
  ⟨0,B8,F8,v8,[],lZr _,rfl,by rw[List.append_nil];exact L,rfl,rfl,(bT (Ext.refl _)).wide (fun _ _ c=>c.elim) (fun _ c=>c.elim),WideC.refl _ _ _,KeptY.refl _,g11,g17,g114,g115,g116⟩
 rintro m' a' h' hn' ⟨i,B',F',v',qs,hi,rfl,L',hql,hqs,Kk,Ww,Y,e11,e17,e114,e115,e116⟩
 by_cases hlt:i<ys.length
 rotate_left
 ·have c1:decide ((i:Int)<(ys.length:Int))=false:=dcF (by omega)
  have ht:ys.take i=ys:=List.take_of_length_le (by omega)
  rw[ht] at hqs
  simp -dsimp only[go_sem,e11,e17,e114,e115,e116,c1]
  refine hq _ _ B' F' v' qs (by simp -dsimp only[go_sem,hn']) L' hqs Kk Ww ?_ (by simp -dsimp only[go_sem,e11])
  unfold KeptY at Y ⊢
  simp -dsimp only[go_sem,Y]
 have c1:decide ((i:Int)<(ys.length:Int))=true:=dcT (by omega)
 have hys':=hys.step Kk Ww
 obtain ⟨by1,cy,rfl,hly⟩:=hys'.load hlt
 have hyi:=(hpy.step Kk Ww) ys[i] (List.getElem_mem hlt)
 have hx':=hx.step Kk Ww
 have hb':=L'.bn hbS
 obtain ⟨w1,h11,w2,h12,v4,h14,B4,F4,hs1,ha2,ha3,A4,P4,K4,⟨A1,cc1,eq1⟩,⟨A2,eq2⟩⟩:=zw L'.a L'.p hx' hyi L'.lt L'.ltf hb' L'.x.next L'.x.nfam hwx (hwy _ (List.getElem_mem hlt)) (by rw[List.length_append,hql];omega)
 have L4:=L'.app K4 A4 P4
 have hbs:aY Tryz.prog 27 1 [(0,w2)]=some (.cells ⟨[w2],34,0,0,false⟩,fun b=>.slice (some ⟨b,0,none⟩) 1 1):=by
  rw[uH 1 (by decide),eq2]
  rfl
 have hws:=ah hlt (by omega:ys.length<=9223372036854775807)
 have ik:ap Tryz.prog 27 (.slice (some ⟨by1,0,none⟩) ys.length cy) (.int .i64 (i:Int))=some (.pointer (some ⟨by1,i,none⟩)):=by
  have:=jO (b:=by1) (o:=0) (n:=ys.length) (c:=cy) (i:=i) hlt
  rwa[Nat.zero_add] at this
 simp -dsimp only[go_sem,e11,e17,e114,e115,e116,c1,ik,hly]
 refine ⟨w1,h11,hs1,?_⟩
 simp -dsimp only[go_sem,e11,e17,e114,e115,e116,bP,ha2,hbs,ha3,hws]
 refine ⟨ys.length - (i+1),by omega,i+1,B4,F4,v4,qs++[(w2,wx++ys[i].2)],by omega,rfl,by rw[<-List.append_assoc];exact L4,by simp[hql],?_,?_,Ww.trans K4.wide Kk.next Kk.nfam,?_,rfl,by simp -dsimp only[go_sem,e17]⟩
 ·rw[List.take_succ_eq_append_getElem hlt]
  simp only[aK,List.map_append,List.map_cons,List.map_nil]
  simp only[aK] at hqs
  rw[hqs]
 ·refine ⟨K4.keep.base.trans Kk.base,K4.keep.ro.trans Kk.ro,lTr Kk.next K4.keep.next,lTr Kk.nfam K4.keep.nfam,fun e b cs f k hb hf => ?_⟩
  refine K4.keep.rows e b cs f (Kk.rows e b cs f k hb hf) (fun c=>hb (Ww.nb b k.lt c)) (fun c => ?_)
  rcases Ww.nf f c with c|c
  ·exact hf c
  ·have:=k.fl c.1;omega
 ·unfold KeptY at Y ⊢
  simp -dsimp only[go_sem,Y]
end
section
variable {r:Ro} {mb bk m eb:Nat} {FT:Nat->Nat} {Gv lv rv xr xl:Value} {G:List ar} {em:List Bool} {rks:List Nat}
variable {h h1 h2:Hp} {B F B' F' B2 F2 BS FS B8 F8:Nat->Prop} {R:ByteArray->Tx->Prop} {tbl:Tbl} {sm tm n0 f0:Nat} {hS h8:Hp}
theorem OwnA.lower {n1 f1:Nat} {v:Value} {ps:Prs} (k:OwnA h n1 f1 v ps B F) (q1:n0<=n1) (q2:f0<=f1):OwnA h n0 f0 v ps B F:=by
 rcases k with k|⟨b,f,js,e,hr,hb,hf,q⟩
 ·exact .inl k
 ·exact .inr ⟨b,f,js,e,hr,lTr q1 hb,fun c=>lTr q2 (hf c),q⟩
theorem KeepE.step (x:KeepE B F h h1) (w:WideC h B F B' F') (y:KeepE B' F' h1 h2):KeepE B F h h2:=by
 refine ⟨y.base.trans x.base,y.ro.trans x.ro,lTr x.next y.next,lTr x.nfam y.nfam,fun e b cs f k hb hf => ?_⟩
 refine y.rows e b cs f (x.rows e b cs f k hb hf) (fun c=>hb (w.nb b k.lt c)) (fun c => ?_)
 rcases w.nf f c with c|c
 ·exact hf c
 ·have:=k.fl c.1;omega
theorem LSt.tidy {v:Value} {ps:Prs} {N:Nat} (mv:Value) (hbS:hS.base<=hS.next) (L:LSt R tbl sm tm hS BS FS h B F v ps) (hl:∀p∈ps,p.2.length=N) (hN:N<=1000000) (hps:ps.length<=1000000) (hcap:∀Q:List Tx,Q.Nodup->(∀t∈Q,t∈aK ps)->Q.length<=2000) :
  ∃w h1,Snd Tryz.prog 46 [mv,v] h w h1/\∃B' F' qs,LSt R tbl sm tm hS BS FS h1 B' F' w qs/\KeepE B F h h1/\WideC h B F B' F'/\aQ (aK qs)/\(∀t,t∈aK qs<->t∈aK ps)/\qs.length<=2000:=by
 obtain ⟨w,h1,hs,hx,qs,hO,hsub,hsort,hmem⟩:=zb (m:=mv) L.a.toL L.p.any hl hN hps (L.bn hbS) hcap
 obtain ⟨B',F',hw,hlt,hltf,hA⟩:=hO.toA (h:=h) (B:=B) (F:=F) (lRf _) (lRf _)
 have kE:KeepE B F h h1:=(bT hx).wide (fun _ _ c=>c.elim) (fun _ c=>c.elim)
 have hC:AppC h hS.next hS.nfam B F h1 B' F':=⟨kE,hw,fun S h0 q _ _=>q.trans hx.toS,fun y hy=>hx.objs y (lTl hy L.x.next),hlt,hltf⟩
 refine ⟨w,h1,hs,B',F',qs,L.app hC (hA.lower L.x.next L.x.nfam) ((L.p.sub hsub).step kE hw),kE,hw,hsort,hmem,?_⟩
 rw[<-cj]
 exact hcap _ (bL hsort) (fun t q=>(hmem t).1 q)
def gA (R:ByteArray->Tx->Prop) (r:Ro) (G:List ar) (n0 f0:Nat) (FT:Nat->Nat) (mb bk m eb:Nat) (em:List Bool) (Gv lv rv xr xl:Value) (sm tm:Nat) (tbl:Tbl) (rks:List Nat) (n k:Nat) (p:ad):Prop :=
 ∀(h:Hp) (B F:Nat->Prop),(∀b,B b->b<h.next)->(∀f,F f->f≠0/\f<h.nfam)->MkR r G h n0 f0 FT mb bk m eb em Gv lv rv xr xl sm tm tbl rks->h.base<=h.next->(∃l,MemAt h sm l/\dE R tbl l)->(∃l,MemAt h tm l/\TmOk R tbl h B F l) ->
  ∃v h1,Snd Tryz.prog 28 [.pointer (some ⟨mb,0,none⟩),.int .i64 (k:Int),.int .i64 (n:Int)] h v h1/\GoodL R h1 B F p n v/\ExtS (Two sm tm) h h1/\(∃l,MemAt h1 sm l/\dE R tbl l)/\∃l,MemAt h1 tm l/\TmOk R tbl h1 B F l
theorem LSt.mkr {v:Value} {ps:Prs} (L:LSt R tbl sm tm hS BS FS h B F v ps) (K:MkR r G hS n0 f0 FT mb bk m eb em Gv lv rv xr xl sm tm tbl rks) (i1:IsMap hS sm) (i2:IsMap hS tm):MkR r G h n0 f0 FT mb bk m eb em Gv lv rv xr xl sm tm tbl rks:=K.keepS L.x (fun b c=>c) i1 i2
def KeptX (a a1:Ev.A):Prop:=a1.get 0=a.get 0/\a1.get 1=a.get 1/\a1.get 2=a.get 2/\a1.get 7=a.get 7/\a1.get 10=a.get 10/\a1.get 12=a.get 12/\a1.get 13=a.get 13/\a1.get 15=a.get 15
theorem KeptX.refl (a:Ev.A):KeptX a a:=⟨rfl,rfl,rfl,rfl,rfl,rfl,rfl,rfl⟩
theorem qm (x:Tx) {Q:List Tx} (h:Q.Nodup):(Q.map (x ++ ·)).Nodup:=by
 unfold List.Nodup at h ⊢
 rw[List.pairwise_map]
 exact h.imp fun c e=>c (List.append_cancel_left e)
theorem zx {n i kb:Nat} {y:ad} {W:Tx->Prop} {v8 vxs:Value} {ps8 xs:Prs} (hn:n<=1000) (hi:i<=n) (hbS:hS.base<=hS.next) (K:MkR r G hS n0 f0 FT mb bk m eb em Gv lv rv xr xl sm tm tbl rks) (j1:IsMap hS sm) (j2:IsMap hS tm)
  (hW:∀t,W t->t.length=n) (hcap:∀Q:List Tx,Q.Nodup->(∀t∈Q,W t)->Q.length<=2000)
  (L:LSt R tbl sm tm hS BS FS h8 B8 F8 v8 ps8) (hps8:ps8.length<=2000) (hW8:∀t∈aK ps8,W t) (hxs:LK h8 B8 F8 vxs xs) (hpx:PrK h8 B8 F8 xs) (hlx:∀p∈xs,p.2.length=i) (hxl:xs.length<=2000)
  (hyc:gA R r G n0 f0 FT mb bk m eb em Gv lv rv xr xl sm tm tbl rks (n - i) kb y) (hxy:∀p∈xs,∀t:Tx,t.length=n - i->mkM R y t->W (p.2++t))
  {a:Ev.A} {Q:Ex->Ev.A->Hp->Prop} (hna:a.n=200) (g0:a.get 0=.pointer (some ⟨mb,0,none⟩)) (g2:a.get 2=.int .i64 (n:Int)) (g13:a.get 13=.int .i64 (kb:Int)) (g15:a.get 15=.int .i64 (i:Int)) (g11:a.get 11=v8) (g103:a.get 103=vxs) (g104:a.get 104=.int .i64 (xs.length:Int)) (g105:a.get 105=.int .i64 0)
  (hq:∀(a1:Ev.A) (h9:Hp) (B9 F9:Nat->Prop) (v9:Value) (ps9:Prs),a1.n=200->LSt R tbl sm tm hS BS FS h9 B9 F9 v9 ps9->ps9.length<=2000->(∀t∈aK ps9,W t)->(∀t,t∈aK ps9<->t∈aK ps8\/∃p∈xs,∃u:Tx,u.length=n - i/\mkM R y u/\t=p.2++u)->KeepE B8 F8 h8 h9->WideC h8 B8 F8 B9 F9->KeptX a a1->a1.get 11=v9->Q (.exit 3) a1 h9) :
  Th Tryz.prog (aw Tryz.f28 [1,1,1,1,1,0,1,0,1,1,1,1,1,1,1,1,1,0,1,0,0,1,0,0,1,1,0]) a h8 Q ⟨⟩ ⟨⟩:=by
 simp only[aw,nav,Tryz.f28]
 refine au (n:=200) (by kernel_rfl) (fun m' a' h'=>∃(j:Nat) (B' F':Nat->Prop) (v':Value) (ps':Prs),j<=xs.length/\m'=xs.length - j/\LSt R tbl sm tm hS BS FS h' B' F' v' ps'/\ps'.length<=2000/\(∀t∈aK ps',W t)/\(∀t,t∈aK ps'<->t∈aK ps8\/∃p∈xs.take j,∃u:Tx,u.length=n - i/\mkM R y u/\t=p.2++u)/\KeepE B8 F8 h8 h'/\WideC h8 B8 F8 B' F'/\KeptX a a' /\
   a'.get 11=v'/\a'.get 103=vxs/\a'.get 104=.int .i64 (xs.length:Int)/\a'.get 105=.int .i64 (j:Int)) ?_ _ _ _ hna
  ⟨0,B8,F8,v8,ps8,lZr _,rfl,L,hps8,hW8,fun t=>⟨.inl,fun c=>c.elim id (fun ⟨p,c,_⟩=>by simp at c)⟩,(bT (Ext.refl _)).wide (fun _ _ c=>c.elim) (fun _ c=>c.elim),WideC.refl _ _ _,KeptX.refl _,g11,g103,g104,g105⟩
 rintro m' a' h' hn' ⟨j,B',F',v',ps',hj,rfl,L',hps,hWp,hiff,Kk,Ww,X,e11,e103,e104,e105⟩
 by_cases hlt:j<xs.length
 rotate_left
 ·have c1:decide ((j:Int)<(xs.length:Int))=false:=dcF (by omega)
  have ht:xs.take j=xs:=List.take_of_length_le (by omega)
  rw[ht] at hiff
  simp -dsimp only[go_sem,e11,e103,e104,e105,c1]
  refine hq _ _ B' F' v' ps' (by simp -dsimp only[go_sem,hn']) L' hps hWp hiff Kk Ww ?_ (by simp -dsimp only[go_sem,e11])
  unfold KeptX at X ⊢
  simp -dsimp only[go_sem,X]
 have c1:decide ((j:Int)<(xs.length:Int))=true:=dcT (by omega)
 obtain ⟨e0,e1,e2,e7,e10,e12,e13,e15⟩:=X
 have hxs':=hxs.step Kk Ww
 obtain ⟨bx,cx,rfl,hlxj⟩:=hxs'.load hlt
 have hxj:=(hpx.step Kk Ww) xs[j] (List.getElem_mem hlt)
 have hxjl:=hlx _ (List.getElem_mem hlt)
 have hb':=L'.bn hbS
 obtain ⟨vys,h11,hs1,⟨ys,gy1,gy2,gy3,gy4⟩,X1,M1,T1⟩:=hyc h' B' F' L'.lt L'.ltf (L'.mkr K j1 j2) hb' L'.m L'.tk
 have L1:=L'.call X1 M1 T1
 have K1:KeepE B' F' h' h11:=jQ X1 L'.i1 L'.i2
 have hxj1:=hxj.keep K1
 have hylen:∀p∈ys,p.2.length=n - i:=fun p hp=>((gy4 p.2).1 (List.mem_map.2 ⟨p,hp,rfl⟩)).1
 have hyl:ys.length<=2000:=by
  have:=hcap _ (qm xs[j].2 (bL gy3)) (fun t ht=>by
   obtain ⟨u,hu,rfl⟩:=List.mem_map.1 ht
   have q:=(gy4 u).1 hu
   exact hxy _ (List.getElem_mem hlt) u q.1 q.2)
  rwa[List.length_map,cj] at this
 obtain ⟨Ay,cy,rfl,_⟩:=gy1.shape
 have ik:ap Tryz.prog 27 (.slice (some ⟨bx,0,none⟩) xs.length cx) (.int .i64 (j:Int))=some (.pointer (some ⟨bx,j,none⟩)):=by
  have:=jO (b:=bx) (o:=0) (n:=xs.length) (c:=cx) (i:=j) hlt
  rwa[Nat.zero_add] at this
 have hwd:IntKind.i64.wrap ((n:Int) - (i:Int))=((n - i:Nat):Int):=by
  rw[show ((n:Int) - (i:Int))=((n - i:Nat):Int) by omega]
  exact dq (by omega)
 have hws:=ah hlt (by omega:xs.length<=9223372036854775807)
 simp -dsimp only[go_sem,e0,e2,e13,e15,g0,g2,g13,g15,e11,e103,e104,e105,c1,ik,hlxj,hwd]
 refine ⟨_,h11,hs1,?_⟩
 simp -dsimp only[go_sem,e0,e2,e13,e15,g0,g2,g13,g15,e11,e103,e104,e105]
 refine C2 (wx:=xs[j].2) hbS L1 hxj1 gy1 gy2 (by omega) (fun p hp=>by have:=hylen p hp;omega) (by omega) (by simp -dsimp only[go_sem,hn']) (by simp -dsimp only[go_sem,e11]) (by simp -dsimp only[go_sem]) (by simp -dsimp only[go_sem]) (by simp -dsimp only[go_sem]) (by simp -dsimp only[go_sem]) (fun a2 h12 B12 F12 v12 qs hn2 L2 hqs K2 W2 Y2 p11 => ?_)
 obtain ⟨y0,y1,y2,y7,y10,y12,y13,y15,y103,y104,y105⟩:=Y2
 have hmq:∀t,t∈aK qs<->∃u:Tx,u.length=n - i/\mkM R y u/\t=xs[j].2++u:=by
  intro t
  rw[hqs,List.mem_map]
  exact ⟨fun ⟨u,q1,q2⟩=>⟨u,((gy4 u).1 q1).1,((gy4 u).1 q1).2,q2.symm⟩,fun ⟨u,q1,q2,q3⟩=>⟨u,(gy4 u).2 ⟨q1,q2⟩,q3.symm⟩⟩
 have hsn:aK (ps'++qs)=aK ps'++aK qs:=by simp[aK]
 have hall:∀t∈aK (ps'++qs),W t:=by
  intro t ht
  rw[hsn] at ht
  rcases List.mem_append.1 ht with ht|ht
  ·exact hWp t ht
  ·obtain ⟨u,q1,q2,rfl⟩:=(hmq t).1 ht
   exact hxy _ (List.getElem_mem hlt) u q1 q2
 have hql:qs.length=ys.length:=by
  have:=congrArg List.length hqs
  rwa[cj,List.length_map,cj] at this
 obtain ⟨w,h13,hs3,B13,F13,ps13,L3,K3,W3,so3,mem3,len3⟩:=L2.tidy (N:=n) (.pointer (some ⟨mb,0,none⟩)) hbS (fun p hp=>hW _ (hall _ (List.mem_map.2 ⟨p,hp,rfl⟩))) (by omega) (by rw[List.length_append];omega) (fun Q q1 q2=>hcap Q q1 (fun t ht=>hall t (q2 t ht)))
 simp -dsimp only[go_sem,y0,e0,g0,p11]
 refine ⟨w,h13,hs3,?_⟩
 simp -dsimp only[go_sem,y0,y1,y2,y7,y10,y12,y13,y15,y103,y104,y105,e0,e1,e2,e7,e10,e12,e13,e15,e103,e104,e105,hws]
 refine ⟨xs.length - (j+1),by omega,j+1,B13,F13,w,ps13,by omega,rfl,L3,len3,fun t ht=>hall t ((mem3 t).1 ht),fun t => ?_,((Kk.step Ww K1).step Ww K2).step (Ww.trans W2 (lTr Kk.next K1.next) (lTr Kk.nfam K1.nfam)) K3,(Ww.trans W2 (lTr Kk.next K1.next) (lTr Kk.nfam K1.nfam)).trans W3 (lTr (lTr Kk.next K1.next) K2.next) (lTr (lTr Kk.nfam K1.nfam) K2.nfam),?_,rfl,rfl⟩
 ·rw[mem3,hsn,List.mem_append,hiff,hmq,List.take_succ_eq_append_getElem hlt]
  constructor
  ·rintro ((c|⟨p,hp,c⟩)|c)
   ·exact .inl c
   ·exact .inr ⟨p,List.mem_append.2 (.inl hp),c⟩
   ·exact .inr ⟨_,List.mem_append.2 (.inr (.head _)),c⟩
  ·rintro (c|⟨p,hp,c⟩)
   ·exact .inl (.inl c)
   ·rcases List.mem_append.1 hp with hp|hp
    ·exact .inl (.inr ⟨p,hp,c⟩)
    ·rw[List.mem_singleton] at hp
     subst hp
     exact .inr c
 ·unfold KeptX
  simp -dsimp only[go_sem,y0,y1,y2,y7,y10,y12,y13,y15,e0,e1,e2,e7,e10,e12,e13,e15]
end
section
variable {r:Ro} {mb bk m eb:Nat} {FT:Nat->Nat} {Gv lv rv xr xl:Value} {G:List ar} {em:List Bool} {rks:List Nat}
variable {h h1 h2:Hp} {B F B' F' B2 F2 BS FS B8 F8:Nat->Prop} {R:ByteArray->Tx->Prop} {tbl:Tbl} {sm tm n0 f0:Nat} {hS h8:Hp}
theorem LSt.callA {v:Value} {ps:Prs} {l1:fb} (st:sm≠tm) (L:LSt R tbl sm tm hS BS FS h B F v ps) (x:ExtS (aR sm) h h1) (M1:MemAt h1 sm l1) (S1:dE R tbl l1):LSt R tbl sm tm hS BS FS h1 B F v ps/\KeepE B F h h1:=by
 have x2:ExtS (Two sm tm) h h1:=x.mono (fun b _ c=>.inl c)
 have kE:KeepE B F h h1:=jQ x2 L.i1 L.i2
 obtain ⟨l2,t1,t2⟩:=L.tk
 exact ⟨L.call x2 ⟨l1,M1,S1⟩ ⟨l2,t1.extS x (fun c=>st c.symm),t2.step kE (WideC.refl _ _ _)⟩,kE⟩
def jR (a a1:Ev.A):Prop:=a1.get 0=a.get 0/\a1.get 1=a.get 1/\a1.get 2=a.get 2/\a1.get 7=a.get 7/\a1.get 10=a.get 10/\a1.get 12=a.get 12/\a1.get 13=a.get 13
theorem oZ (y:Tx) {Q:List Tx} (h:Q.Nodup):(Q.map (· ++ y)).Nodup:=by
 unfold List.Nodup at h ⊢
 rw[List.pairwise_map]
 exact h.imp fun c e=>c (List.append_cancel_right e)
theorem rG {n ka kb b10:Nat} {x y:ad} {d:ByteArray} {v1 v2:Value} {W:Tx->Prop} {v8:Value} {ps8:Prs} (hn:n<=1000) (hbS:hS.base<=hS.next) (K:MkR r G hS n0 f0 FT mb bk m eb em Gv lv rv xr xl sm tm tbl rks) (j1:IsMap hS sm) (j2:IsMap hS tm)
  (hW:∀t,W t->t.length=n) (hcap:∀Q:List Tx,Q.Nodup->(∀t∈Q,W t)->Q.length<=2000)
  (L:LSt R tbl sm tm hS BS FS h8 B8 F8 v8 ps8) (hps8:ps8.length<=2000) (hW8:∀t∈aK ps8,W t) (hP:bX 48 h8 b10 [.string d,v1,v2] 0) (hPB:¬B8 b10)
  (hA:∀j,j<=n->(0<j\/¬d.data.toList=[109,97,110,121])->gm R r G n0 f0 FT mb bk m eb em Gv lv rv xr xl sm tm tbl rks j ka x)
  (hB:∀j,j<=n->(0<j\/¬d.data.toList=[109,97,110,121])->Aq R x j->gm R r G n0 f0 FT mb bk m eb em Gv lv rv xr xl sm tm tbl rks (n - j) kb y)
  (hLA:∀j,j<=n->(0<j\/¬d.data.toList=[109,97,110,121])->Aq R x j->Aq R y (n - j)->gA R r G n0 f0 FT mb bk m eb em Gv lv rv xr xl sm tm tbl rks j ka x)
  (hLB:∀j,j<=n->(0<j\/¬d.data.toList=[109,97,110,121])->Aq R x j->Aq R y (n - j)->gA R r G n0 f0 FT mb bk m eb em Gv lv rv xr xl sm tm tbl rks (n - j) kb y)
  (hxy:∀j,j<=n->(0<j\/¬d.data.toList=[109,97,110,121])->∀u v:Tx,u.length=j->mkM R x u->v.length=n - j->mkM R y v->W (u++v))
  {a:Ev.A} {Q:Ex->Ev.A->Hp->Prop} (hna:a.n=200) (g0:a.get 0=.pointer (some ⟨mb,0,none⟩)) (g2:a.get 2=.int .i64 (n:Int)) (g10:a.get 10=.pointer (some ⟨b10,0,none⟩)) (g12:a.get 12=.int .i64 (ka:Int)) (g13:a.get 13=.int .i64 (kb:Int)) (g15:a.get 15=.int .i64 0) (g11:a.get 11=v8)
  (hq:∀(a1:Ev.A) (h9:Hp) (B9 F9:Nat->Prop) (v9:Value) (ps9:Prs),a1.n=200->LSt R tbl sm tm hS BS FS h9 B9 F9 v9 ps9->ps9.length<=2000->(∀t∈aK ps9,W t)->(∀t,t∈aK ps9<->t∈aK ps8\/∃j,j<n+1/\(0<j\/¬d.data.toList=[109,97,110,121])/\∃u v:Tx,u.length=j/\mkM R x u/\v.length=n - j/\mkM R y v/\t=u++v)->KeepE B8 F8 h8 h9->WideC h8 B8 F8 B9 F9->jR a a1->a1.get 11=v9->Q (.exit 1) a1 h9) :
  Th Tryz.prog (aw Tryz.f28 [1,1,1,1,1,0,1,0,1,1,1,1,1,1,1,1,1,0,1,0]) a h8 Q ⟨⟩ ⟨⟩:=by
 simp only[aw,nav,Tryz.f28]
 refine au (n:=200) (by kernel_rfl) (fun m' a' h'=>∃(i:Nat) (B' F':Nat->Prop) (v':Value) (ps':Prs),i<=n+1/\m'=n+1 - i/\LSt R tbl sm tm hS BS FS h' B' F' v' ps'/\ps'.length<=2000/\(∀t∈aK ps',W t)/\(∀t,t∈aK ps'<->t∈aK ps8\/∃j,j<i/\(0<j\/¬d.data.toList=[109,97,110,121])/\∃u v:Tx,u.length=j/\mkM R x u/\v.length=n - j/\mkM R y v/\t=u++v)/\KeepE B8 F8 h8 h'/\WideC h8 B8 F8 B' F'/\jR a a' /\
   a'.get 11=v'/\a'.get 15=.int .i64 (i:Int)) ?_ _ _ _ hna
  ⟨0,B8,F8,v8,ps8,lZr _,rfl,L,hps8,hW8,fun t=>⟨.inl,fun c=>c.elim id (fun ⟨p,c,_⟩=>absurd c (lNz _))⟩,(bT (Ext.refl _)).wide (fun _ _ c=>c.elim) (fun _ c=>c.elim),WideC.refl _ _ _,⟨rfl,rfl,rfl,rfl,rfl,rfl,rfl⟩,g11,g15⟩
 rintro m' a' h' hn' ⟨i,B',F',v',ps',hi,rfl,L',hps,hWp,hiff,Kk,Ww,X,e11,e15⟩
 by_cases hin:i<=n
 rotate_left
 ·have c1:decide ((i:Int)<=(n:Int))=false:=dcF (by omega)
  have e2:=X.2.2.1
  simp -dsimp only[go_sem,e2,g2,e11,e15,c1]
  refine hq _ _ B' F' v' ps' (by simp -dsimp only[go_sem,hn']) L' hps hWp ?_ Kk Ww ?_ (by simp -dsimp only[go_sem,e11])
  ·rw[show n+1=i by omega];exact hiff
  ·unfold jR at X ⊢
   simp -dsimp only[go_sem,X]
 have c1:decide ((i:Int)<=(n:Int))=true:=dcT (by omega)
 obtain ⟨e0,e1,e2,e7,e10,e12,e13⟩:=X
 have hb':=L'.bn hbS
 have l0:h'.load ⟨b10,0,none⟩=some (.string d):=by
  rw[bV (Kk.rows _ _ _ _ hP hPB (fun c=>(L.ltf 0 c).1 rfl))]
  rfl
 have hws:=ah (n:=i) (m:=n+1) (by omega) (by omega)
 have hwd:IntKind.i64.wrap ((n:Int) - (i:Int))=((n - i:Nat):Int):=by
  rw[show ((n:Int) - (i:Int))=((n - i:Nat):Int) by omega]
  exact dq (by omega)
 have none1:(¬((0<i\/¬d.data.toList=[109,97,110,121])/\Aq R x i/\Aq R y (n - i)))->∀t,t∈aK ps'<->t∈aK ps8\/∃j,j<i+1/\(0<j\/¬d.data.toList=[109,97,110,121])/\∃u v:Tx,u.length=j/\mkM R x u/\v.length=n - j/\mkM R y v/\t=u++v:=by
  intro no t
  rw[hiff]
  constructor
  ·rintro (c|⟨j,hj,c⟩)
   ·exact .inl c
   ·exact .inr ⟨j,by omega,c⟩
  ·rintro (c|⟨j,hj,w1,u,v,w2,w3,w4,w5,w6⟩)
   ·exact .inl c
   ·by_cases e:j=i
    ·subst e
     exact absurd ⟨w1,⟨u,w2,w3⟩,⟨v,w4,w5⟩⟩ no
    ·exact .inr ⟨j,by omega,w1,u,v,w2,w3,w4,w5,w6⟩
 by_cases hgd:0<i\/¬d.data.toList=[109,97,110,121]
 rotate_left
 ·have c2:decide ((i:Int)=0)=true:=dcT (by
   have:¬ 0<i:=fun c=>hgd (.inl c)
   omega)
  have c3:decide (d.data.toList=[109,97,110,121])=true:=dcT (Classical.not_not.1 (fun c=>hgd (.inr c)))
  simp -dsimp only[go_sem,e0,e2,e10,e12,e13,g0,g2,g10,g12,g13,e11,e15,c1,c2,c3,l0,ai,hws]
  exact ⟨n+1 - (i+1),by omega,i+1,B',F',v',ps',by omega,rfl,L',hps,hWp,none1 (fun c=>hgd c.1),Kk,Ww,by unfold jR;simp -dsimp only[go_sem,e0,e1,e2,e7,e10,e12,e13],by simp -dsimp only[go_sem,e11]⟩
 obtain ⟨l,M',S'⟩:=L'.m
 obtain ⟨_,h11,hs1,b1,l1,rfl,iff1,X1,M1,S1⟩:=hA i hin hgd h' l (L'.mkr K j1 j2) hb' M' S' L'.i2
 obtain ⟨L1,K1⟩:=L'.callA K.st X1 M1 S1
 have Kk1:=Kk.step Ww K1
 have Ww1:WideC h8 B8 F8 B' F':=Ww
 have hb1:=L1.bn hbS
 have dec:(decide ((i:Int)=0)=true/\decide (d.data.toList=[109,97,110,121])=false)\/decide ((i:Int)=0)=false:=by
  by_cases c:i=0
  ·exact .inl ⟨dcT (by omega),dcF (hgd.resolve_left (by omega))⟩
  ·exact .inr (dcF (by omega))
 cases b1 with
 | false =>
   have no:¬((0<i\/¬d.data.toList=[109,97,110,121])/\Aq R x i/\Aq R y (n - i)):=fun c=>absurd (iff1.2 c.2.1) (by decide)
   rcases dec with ⟨c2,c3⟩|c2
   ·simp -dsimp only[go_sem,e0,e2,e10,e12,e13,g0,g2,g10,g12,g13,e11,e15,c1,c2,c3,l0,ai,hws]
    refine ⟨_,h11,hs1,?_⟩
    simp -dsimp only[go_sem,e0,e2,e10,e12,e13,g0,g2,g10,g12,g13,e11,e15,ai,hws]
    exact ⟨n+1 - (i+1),by omega,i+1,B',F',v',ps',by omega,rfl,L1,hps,hWp,none1 no,Kk1,Ww,by unfold jR;simp -dsimp only[go_sem,e0,e1,e2,e7,e10,e12,e13],by simp -dsimp only[go_sem,e11]⟩
   ·simp -dsimp only[go_sem,e0,e2,e10,e12,e13,g0,g2,g10,g12,g13,e11,e15,c1,c2,l0,ai,hws]
    refine ⟨_,h11,hs1,?_⟩
    simp -dsimp only[go_sem,e0,e2,e10,e12,e13,g0,g2,g10,g12,g13,e11,e15,ai,hws]
    exact ⟨n+1 - (i+1),by omega,i+1,B',F',v',ps',by omega,rfl,L1,hps,hWp,none1 no,Kk1,Ww,by unfold jR;simp -dsimp only[go_sem,e0,e1,e2,e7,e10,e12,e13],by simp -dsimp only[go_sem,e11]⟩
 | true =>
 have aq1:=iff1.1 rfl
 obtain ⟨_,h12,hs2,b2,l2,rfl,iff2,X2,M2,S2⟩:=hB i hin hgd aq1 h11 l1 (L1.mkr K j1 j2) hb1 M1 S1 L1.i2
 obtain ⟨L2,K2⟩:=L1.callA K.st X2 M2 S2
 have Kk2:=Kk1.step Ww K2
 have hb2:=L2.bn hbS
 cases b2 with
 | false =>
   have no:¬((0<i\/¬d.data.toList=[109,97,110,121])/\Aq R x i/\Aq R y (n - i)):=fun c=>absurd (iff2.2 c.2.2) (by decide)
   rcases dec with ⟨c2,c3⟩|c2
   ·simp -dsimp only[go_sem,e0,e2,e10,e12,e13,g0,g2,g10,g12,g13,e11,e15,c1,c2,c3,l0,ai,hws,hwd]
    refine ⟨_,h11,hs1,?_⟩
    simp -dsimp only[go_sem,e0,e2,e10,e12,e13,g0,g2,g10,g12,g13,e11,e15,ai,hws,hwd]
    refine ⟨_,h12,hs2,?_⟩
    simp -dsimp only[go_sem,e0,e2,e10,e12,e13,g0,g2,g10,g12,g13,e11,e15,ai,hws]
    exact ⟨n+1 - (i+1),by omega,i+1,B',F',v',ps',by omega,rfl,L2,hps,hWp,none1 no,Kk2,Ww,by unfold jR;simp -dsimp only[go_sem,e0,e1,e2,e7,e10,e12,e13],by simp -dsimp only[go_sem,e11]⟩
   ·simp -dsimp only[go_sem,e0,e2,e10,e12,e13,g0,g2,g10,g12,g13,e11,e15,c1,c2,l0,ai,hws,hwd]
    refine ⟨_,h11,hs1,?_⟩
    simp -dsimp only[go_sem,e0,e2,e10,e12,e13,g0,g2,g10,g12,g13,e11,e15,ai,hws,hwd]
    refine ⟨_,h12,hs2,?_⟩
    simp -dsimp only[go_sem,e0,e2,e10,e12,e13,g0,g2,g10,g12,g13,e11,e15,ai,hws]
    exact ⟨n+1 - (i+1),by omega,i+1,B',F',v',ps',by omega,rfl,L2,hps,hWp,none1 no,Kk2,Ww,by unfold jR;simp -dsimp only[go_sem,e0,e1,e2,e7,e10,e12,e13],by simp -dsimp only[go_sem,e11]⟩
 | true =>
 have aq2:=iff2.1 rfl
 obtain ⟨vxs,h13,hs3,⟨xs,gx1,gx2,gx3,gx4⟩,X3,M3,T3⟩:=hLA i hin hgd aq1 aq2 h12 B' F' L2.lt L2.ltf (L2.mkr K j1 j2) hb2 L2.m L2.tk
 have L3:=L2.call X3 M3 T3
 have K3:KeepE B' F' h12 h13:=jQ X3 L2.i1 L2.i2
 have Kk3:=Kk2.step Ww K3
 have hlx:∀p∈xs,p.2.length=i:=fun p hp=>((gx4 p.2).1 (List.mem_map.2 ⟨p,hp,rfl⟩)).1
 have hmx:∀p∈xs,mkM R x p.2:=fun p hp=>((gx4 p.2).1 (List.mem_map.2 ⟨p,hp,rfl⟩)).2
 have hxl:xs.length<=2000:=by
  obtain ⟨v0,q1,q2⟩:=aq2
  have:=hcap _ (oZ v0 (bL gx3)) (fun t ht=>by
   obtain ⟨u,hu,rfl⟩:=List.mem_map.1 ht
   have q:=(gx4 u).1 hu
   exact hxy i hin hgd u v0 q.1 q.2 q1 q2)
  rwa[List.length_map,cj] at this
 have hxy2:∀p∈xs,∀t:Tx,t.length=n - i->mkM R y t->W (p.2++t):=fun p hp t q1 q2=>hxy i hin hgd p.2 t (hlx p hp) (hmx p hp) q1 q2
 have more:∀ps9:Prs,(∀t,t∈aK ps9<->t∈aK ps'\/∃p∈xs,∃u:Tx,u.length=n - i/\mkM R y u/\t=p.2++u)->∀t,t∈aK ps9<->t∈aK ps8\/∃j,j<i+1/\(0<j\/¬d.data.toList=[109,97,110,121])/\∃u v:Tx,u.length=j/\mkM R x u/\v.length=n - j/\mkM R y v/\t=u++v:=by
  intro ps9 iff9 t
  rw[iff9,hiff]
  constructor
  ·rintro ((c|⟨j,hj,c⟩)|⟨p,hp,u,q1,q2,q3⟩)
   ·exact .inl c
   ·exact .inr ⟨j,by omega,c⟩
   ·exact .inr ⟨i,by omega,hgd,p.2,u,hlx p hp,hmx p hp,q1,q2,q3⟩
  ·rintro (c|⟨j,hj,w1,u,v,w2,w3,w4,w5,w6⟩)
   ·exact .inl (.inl c)
   ·by_cases e:j=i
    ·subst e
     obtain ⟨p,hp,e2⟩:=List.mem_map.1 ((gx4 u).2 ⟨w2,w3⟩)
     exact .inr ⟨p,hp,v,w4,w5,by rw[e2];exact w6⟩
    ·exact .inl (.inr ⟨j,by omega,w1,u,v,w2,w3,w4,w5,w6⟩)
 obtain ⟨Ax,cx,rfl,_⟩:=gx1.shape
 rcases dec with ⟨c2,c3⟩|c2
 ·simp -dsimp only[go_sem,e0,e2,e10,e12,e13,g0,g2,g10,g12,g13,e11,e15,c1,c2,c3,l0,ai,hws,hwd]
  refine ⟨_,h11,hs1,?_⟩
  simp -dsimp only[go_sem,e0,e2,e10,e12,e13,g0,g2,g10,g12,g13,e11,e15,ai,hws,hwd]
  refine ⟨_,h12,hs2,?_⟩
  simp -dsimp only[go_sem,e0,e2,e10,e12,e13,g0,g2,g10,g12,g13,e11,e15,ai,hws]
  refine ⟨_,h13,hs3,?_⟩
  simp -dsimp only[go_sem,e0,e2,e10,e12,e13,g0,g2,g10,g12,g13,e11,e15,ai,hws]
  refine zx hn hin hbS K j1 j2 hW hcap L3 hps hWp gx1 gx2 hlx hxl (hLB i hin hgd aq1 aq2) hxy2 (by simp -dsimp only[go_sem,hn']) (by simp -dsimp only[go_sem,e0,g0]) (by simp -dsimp only[go_sem,e2,g2]) (by simp -dsimp only[go_sem,e13,g13]) (by simp -dsimp only[go_sem,e15]) (by simp -dsimp only[go_sem,e11]) (by simp -dsimp only[go_sem]) (by simp -dsimp only[go_sem]) (by simp -dsimp only[go_sem]) (fun a2 h9 B9 F9 v9 ps9 hn2 L9 B0 W9 iff9 K9 Wi9 X9 p11 => ?_)
  obtain ⟨y0,y1,y2,y7,y10,y12,y13,y15⟩:=X9
  simp -dsimp only[go_sem,y0,y1,y2,y7,y10,y12,y13,y15,e0,e1,e2,e7,e10,e12,e13,e15,p11,hws]
  exact ⟨n+1 - (i+1),by omega,i+1,B9,F9,v9,ps9,by omega,rfl,L9,B0,W9,more ps9 iff9,Kk3.step Ww K9,Ww.trans Wi9 Kk3.next Kk3.nfam,by unfold jR;simp -dsimp only[go_sem,y0,y1,y2,y7,y10,y12,y13,e0,e1,e2,e7,e10,e12,e13],rfl,rfl⟩
 ·simp -dsimp only[go_sem,e0,e2,e10,e12,e13,g0,g2,g10,g12,g13,e11,e15,c1,c2,l0,ai,hws,hwd]
  refine ⟨_,h11,hs1,?_⟩
  simp -dsimp only[go_sem,e0,e2,e10,e12,e13,g0,g2,g10,g12,g13,e11,e15,ai,hws,hwd]
  refine ⟨_,h12,hs2,?_⟩
  simp -dsimp only[go_sem,e0,e2,e10,e12,e13,g0,g2,g10,g12,g13,e11,e15,ai,hws]
  refine ⟨_,h13,hs3,?_⟩
  simp -dsimp only[go_sem,e0,e2,e10,e12,e13,g0,g2,g10,g12,g13,e11,e15,ai,hws]
  refine zx hn hin hbS K j1 j2 hW hcap L3 hps hWp gx1 gx2 hlx hxl (hLB i hin hgd aq1 aq2) hxy2 (by simp -dsimp only[go_sem,hn']) (by simp -dsimp only[go_sem,e0,g0]) (by simp -dsimp only[go_sem,e2,g2]) (by simp -dsimp only[go_sem,e13,g13]) (by simp -dsimp only[go_sem,e15]) (by simp -dsimp only[go_sem,e11]) (by simp -dsimp only[go_sem]) (by simp -dsimp only[go_sem]) (by simp -dsimp only[go_sem]) (fun a2 h9 B9 F9 v9 ps9 hn2 L9 B0 W9 iff9 K9 Wi9 X9 p11 => ?_)
  obtain ⟨y0,y1,y2,y7,y10,y12,y13,y15⟩:=X9
  simp -dsimp only[go_sem,y0,y1,y2,y7,y10,y12,y13,y15,e0,e1,e2,e7,e10,e12,e13,e15,p11,hws]
  exact ⟨n+1 - (i+1),by omega,i+1,B9,F9,v9,ps9,by omega,rfl,L9,B0,W9,more ps9 iff9,Kk3.step Ww K9,Ww.trans Wi9 Kk3.next Kk3.nfam,by unfold jR;simp -dsimp only[go_sem,y0,y1,y2,y7,y10,y12,y13,e0,e1,e2,e7,e10,e12,e13],rfl,rfl⟩
end
section
variable {h h1 h2:Hp} {B F B' F' BS FS:Nat->Prop} {R:ByteArray->Tx->Prop} {tbl:Tbl} {sm tm:Nat} {hS:Hp}
def OwnX (h:Hp) (n0 f0:Nat) (v:Value) (ps:Prs) (B F:Nat->Prop):Prop:=(ps=[]/\v=.slice none 0 0)\/∃b f,v=.slice (some ⟨b,0,none⟩) ps.length ps.length/\bX 34 h b (aX ps) f/\n0<=b/\(f≠0->f0<=f)/\B b/\(f≠0->F f)
theorem OwnX.toA {n0 f0:Nat} {v:Value} {ps:Prs} (k:OwnX h n0 f0 v ps B F):OwnA h n0 f0 v ps B F:=by
 rcases k with k|⟨b,f,e,hr,q⟩
 ·exact .inl k
 ·exact .inr ⟨b,f,[],e,by rw[List.append_nil];exact hr,q⟩
theorem OwnX.extM {n0 f0:Nat} {v:Value} {ps:Prs} (x:ExtS (Two sm tm) h h1) (i1:IsMap h sm) (i2:IsMap h tm) (k:OwnX h n0 f0 v ps B F):OwnX h1 n0 f0 v ps B F:=by
 rcases k with k|⟨b,f,e,hr,q⟩
 ·exact .inl k
 ·exact .inr ⟨b,f,e,(jQ (B:=fun _=>False) (F:=fun _=>False) x i1 i2).rows _ _ _ _ hr (fun c=>c) (fun c=>c),q⟩
theorem OwnX.len {n0 f0:Nat} {v:Value} {ps:Prs} (k:OwnX h n0 f0 v ps B F):∃A,v=.slice A ps.length ps.length:=by
 rcases k with ⟨rfl,rfl⟩|⟨b,f,rfl,q⟩
 ·exact ⟨none,rfl⟩
 ·exact ⟨_,rfl⟩
theorem xm {n0 f0 n1 f1:Nat} {v:Value} {ps:Prs} (k:OwnZ 34 h1 n1 f1 (aX ps) v) (q1:n0<=n1) (q2:f0<=f1) (hn:h.next<=n1) (hf:h.nfam<=f1):∃B' F',WideC h B F B' F'/\(∀b,B' b->B b\/b<h1.next)/\(∀f,F' f->F f\/(f≠0/\f<h1.nfam))/\OwnX h1 n0 f0 v ps B' F':=by
 rcases k with ⟨e,rfl⟩|⟨b,f,rfl,hr,hb,hf0⟩
 ·exact ⟨B,F,WideC.refl _ _ _,fun b c=>.inl c,fun f c=>.inl c,.inl ⟨List.map_eq_nil_iff.1 e,rfl⟩⟩
 ·refine ⟨fun y=>B y\/y=b,fun q=>F q\/(q=f/\f≠0),⟨fun _ c=>.inl c,fun y hy c=>c.elim id (fun c => ?_),fun _ c=>.inl c,fun q c=>c.elim .inl (fun c=>.inr ⟨by rw[c.1];exact c.2,?_⟩)⟩,fun y c=>c.elim .inl (fun c=>.inr (by rw[c];exact hr.lt)),fun q c=>c.elim .inl (fun c=>.inr (by rw[c.1];exact ⟨c.2,hr.fl c.2⟩)),.inr ⟨b,f,by rw[bD],hr,by omega,fun c=>by have:=hf0 c;omega,.inr rfl,fun c=>.inr ⟨rfl,c⟩⟩⟩
  ·omega
  ·have:=hf0 c.2
   omega
theorem DP {v x:Value} {n0 f0:Nat} {ps qs:Prs} (k:OwnX h n0 f0 v ps B F) (hx:l6 h x (aX qs)) (hone:(aX qs).all oneCell=true) (hq:0<qs.length) (hb:h.base<=h.next) (hn0:n0<=h.next) (hf0:f0<=h.nfam) (hsz:ps.length+qs.length<=1000000) :
  ∃v' h' B' F',bt Tryz.prog h [27,27] [v,x]=some (v',h')/\OwnA h' n0 f0 v' (ps++qs) B' F'/\AppC h n0 f0 B F h' B' F':=by
 obtain ⟨hln,hf1⟩:=hx
 have hfl:(aX qs).length=qs.length:=bD _
 rw[hfl] at hln hf1
 have hfu:aX (ps++qs)=aX ps++aX qs:=by simp[aX]
 rcases k with ⟨rfl,rfl⟩|⟨b,f,rfl,hr,hb0,hf,hB,hF⟩
 ·have hx0:=Ext.new h (ak.cells { c:=aX qs,e:=34,fam:=0,base:=0,grown:=true })
  refine ⟨.slice (some ⟨h.next,0,none⟩) qs.length qs.length,h.newH (ak.cells { c:=aX qs,e:=34,fam:=0,base:=0,grown:=true }),fun y=>B y\/y=h.next,F,?_,?_,?_⟩
  ·rw[cQ Tryz.underlying27 eJ oy ⟨rfl,by decide⟩ (by kernel_rfl) h (len:=0) (cap:=0) (n:=qs.length) hln hf1 (by simpa using hsz) (lRf _) hone (by simp[hfl]) (by kernel_rfl)]
   have:Nat.ble (0+qs.length) 0=false:=dX (by omega)
   simp only[apd,this,Hp.grownRow,lG]
  ·refine .inr ⟨h.next,0,[],by simp,⟨hb,lSs _,⟨0,true,?_⟩,fun e=>absurd rfl e⟩,hn0,fun e=>absurd rfl e,.inr rfl,fun e=>absurd rfl e⟩
   simp only[Hp.row,cW,if_true,List.append_nil,List.nil_append]
  ·exact ⟨(bT hx0).wide (fun _ _ c=>c.elim) (fun _ c=>c.elim),⟨fun _ c=>.inl c,fun y hy c=>c.elim id (fun c=>by omega),fun _ c=>c,fun _ c=>.inl c⟩,fun S h0 q _ _=>q.trans hx0.toS,fun y hy=>hx0.objs y (by omega),fun y c=>c.elim .inl (fun c=>.inr (by rw[c];exact lSs _)),fun _ c=>.inl c⟩
 ·obtain ⟨bs,g,hrow⟩:=hr.row
  have hpl:(aX ps).length=ps.length:=bD _
  have hld:h.loads ⟨b,0,none⟩ (ps.length*1)=some (aX ps):=by
   rw[cB hr,List.drop_zero,Nat.mul_one,<-hpl]
   exact dB _
  have hc:Nat.ble (ps.length+qs.length) ps.length=false:=dX (by omega)
  have hbeq:Nat.beq 34 34=true:=rfl
  have happ:bt Tryz.prog h [27,27] [.slice (some ⟨b,0,none⟩) ps.length ps.length,x]=apd h 34 1 (some ⟨b,0,none⟩) ps.length ps.length qs.length (aX qs) :=
   cQ Tryz.underlying27 eJ oy ⟨rfl,by decide⟩ (by kernel_rfl) h (len:=ps.length) (cap:=ps.length) (n:=qs.length) hln hf1 (by omega) (lRf _) hone (by simp[hfl]) (by kernel_rfl)
  have fin:∀(f':Nat) (h':Hp),apd h 34 1 (some ⟨b,0,none⟩) ps.length ps.length qs.length (aX qs)=some (.slice (some ⟨h.next,0,none⟩) (ps.length+qs.length) (ps.length+qs.length),h')->bX 34 h' h.next (aX ps++aX qs) f'->((f'=f/\f≠0)\/f'=h.nfam)->h'.base=h.base->h'.ro=h.ro->h'.next=h.next+1->h.nfam<=h'.nfam->(f'≠0->f'<h'.nfam) ->
    (∀y,y<h.next->y≠b->h'.objs.get y=h.objs.get y)->(∀q,q<h.nfam->¬(q=f/\f≠0)->h'.fams.get q=h.fams.get q) ->
    ∃v' h' B' F',bt Tryz.prog h [27,27] [.slice (some ⟨b,0,none⟩) ps.length ps.length,x]=some (v',h')/\OwnA h' n0 f0 v' (ps++qs) B' F'/\AppC h n0 f0 B F h' B' F':=by
   intro f' h' a1 a2 a3 e1 e2 e3 e4 e4b e5 e6
   have hf':f'≠0->f0<=f':=by
    intro c
    rcases a3 with ⟨rfl,q⟩|rfl
    ·exact hf q
    ·exact hf0
   refine ⟨_,h',fun y=>B y\/y=h.next,fun q=>F q\/(q=f'/\f'≠0),by rw[happ,a1],.inr ⟨h.next,f',[],by simp,by rw[hfu,List.append_nil];exact a2,hn0,hf',.inr rfl,fun c=>.inr ⟨rfl,c⟩⟩,?_,⟨fun _ c=>.inl c,fun y hy c=>c.elim id (fun c=>by omega),fun _ c=>.inl c,fun q c=>c.elim .inl (fun c => ?_)⟩,?_,fun y hy=>e5 y (by omega) (by omega),fun y c=>c.elim .inl (fun c=>.inr (by omega)),fun q c=>c.elim .inl (fun c=>.inr (by rw[c.1];exact ⟨c.2,e4b c.2⟩))⟩
   ·refine ⟨e1,e2,by omega,e4,fun e' b' cs' f'' k hb' hf'' => ?_⟩
    have hbb:b'≠b:=fun c=>hb' (by rw[c];exact hB)
    obtain ⟨bs',g',hr'⟩:=k.row
    refine ⟨by rw[e1];exact k.lo,by have:=k.lt;omega,⟨bs',g',iZ hr' (e5 b' k.lt hbb) (fun h0=>e6 f'' (k.fl h0) (fun c => ?_))⟩,fun c=>lTl (k.fl c) e4⟩
    exact hf'' (by rw[c.1];exact hF c.2)
   ·rcases a3 with ⟨q1,q2⟩|q1
    ·left;rw[c.1,q1];exact hF q2
    ·right;rw[c.1];exact ⟨c.2,by omega⟩
   ·intro S h0 q q1 q2
    refine ⟨e1.trans q.base,e2.trans q.ro,by have:=q.next;omega,fun y hy hs' => ?_,lTr q.nfam e4,fun y hy => ?_⟩
    ·rw[e5 y (by have:=q.next;omega) (by omega)]
     exact q.objs y hy hs'
    ·rw[e6 y (by have:=q.nfam;omega) (fun c=>by have:=hf c.2;omega)]
     exact q.fams y hy
  by_cases hfe:f=0
  ·subst hfe
   refine fin h.nfam { h with
    objs:=(h.objs.put b (.cells ⟨aX ps,34,h.nfam,bs,g⟩)).put h.next (.cells ⟨aX ps++aX qs,34,h.nfam,bs+0,true⟩)
    next:=h.next+1
    fams:=h.fams.put h.nfam (⟨h.next,bs+0,bs+0+(aX ps++aX qs).length⟩::ma b bs (bs+(aX ps).length) (bs+0+ps.length*1))
    nfam:=h.nfam+1 } ?_ ?_ (.inr rfl) rfl rfl rfl (Nat.le_succ _) (fun _=>lSs _) ?_ ?_
   ·simp only[apd,hc,hrow,hld,gH,hbeq]
   ·refine ⟨by have:=hr.lo;have:=hr.lt;show h.base<=h.next;omega,lSs _,⟨bs+0,true,?_⟩,fun _=>lSs _⟩
    simp only[Hp.row,Tr.get_put,if_true]
    cases hnf:h.nfam with
    | zero=>rfl
    | succ q=>simp only[Tr.get_put,if_true,List.any_cons,dW,Bool.true_or]
   ·intro x hx hxb
    simp only[Tr.get_put,if_neg (Nat.ne_of_lt hx),if_neg hxb]
   ·intro q hq _
    simp only[Tr.get_put,if_neg (Nat.ne_of_lt hq)]
  ·obtain ⟨q0,rfl⟩:∃q0,f=q0+1:=⟨f - 1,by omega⟩
   obtain ⟨l,hl0⟩:=oU hr hfe
   refine fin (q0+1) { h with
    objs:=h.objs.put h.next (.cells ⟨aX ps++aX qs,34,q0+1,bs+0,true⟩)
    next:=h.next+1
    fams:=h.fams.put (q0+1) (⟨h.next,bs+0,bs+0+(aX ps++aX qs).length⟩::l.filter fun m=>Nat.ble m.hi (bs+0+ps.length*1)) } ?_ ?_ (.inl ⟨rfl,by omega⟩) rfl rfl rfl (lRf _) (fun c=>hr.fl c) ?_ ?_
   ·simp only[apd,hc,hrow,hld,gH,hbeq,hl0]
   ·refine ⟨by have:=hr.lo;have:=hr.lt;show h.base<=h.next;omega,lSs _,⟨bs+0,true,?_⟩,fun e=>hr.fl e⟩
    simp only[Hp.row,Tr.get_put,if_true,List.any_cons,dW,Bool.true_or]
   ·intro x hx _
    simp only[Tr.get_put,if_neg (Nat.ne_of_lt hx)]
   ·intro q hq hqf
    have:¬q=q0+1:=fun e=>hqf ⟨e,by omega⟩
    simp only[Tr.get_put,if_neg this]
theorem LSt.clone {v:Value} {ps:Prs} (hbS:hS.base<=hS.next) (L:LSt R tbl sm tm hS BS FS h B F v ps) (hps:ps.length<=1000000) :
  ∃w h1,Snd Tryz.prog 47 [v] h w h1/\∃B' F',LSt R tbl sm tm hS BS FS h1 B' F' w ps/\OwnX h1 hS.next hS.nfam w ps B' F'/\KeepE B F h h1/\WideC h B F B' F':=by
 obtain ⟨w,h1,hs,hx,hO⟩:=sP L.a.toL L.p.any (L.bn hbS) hps
 obtain ⟨B',F',hw,hlt,hltf,hX⟩:=xm (h:=h) (B:=B) (F:=F) hO L.x.next L.x.nfam (lRf _) (lRf _)
 have kE:KeepE B F h h1:=(bT hx).wide (fun _ _ c=>c.elim) (fun _ c=>c.elim)
 have hC:AppC h hS.next hS.nfam B F h1 B' F':=⟨kE,hw,fun S h0 q _ _=>q.trans hx.toS,fun y hy=>hx.objs y (lTl hy L.x.next),hlt,hltf⟩
 exact ⟨w,h1,hs,B',F',L.app hC hX.toA (L.p.step kE hw),hX,kE,hw⟩
end
section
variable {r:Ro} {mb bk m eb:Nat} {FT:Nat->Nat} {Gv lv rv xr xl:Value} {G:List ar} {em:List Bool} {rks:List Nat}
variable {h h1 h2:Hp} {B F B' F' B2 F2 BS FS B8 F8:Nat->Prop} {R:ByteArray->Tx->Prop} {tbl:Tbl} {sm tm n0 f0:Nat} {hS h8:Hp}
def s9 (a a1:Ev.A):Prop:=a1.get 0=a.get 0/\a1.get 2=a.get 2/\a1.get 7=a.get 7
theorem ki {n:Nat} {l:List ad} {ks:List Nat} {A:Option Addr} {W:Tx->Prop} {v8:Value} {ps8:Prs} (hn:n<=1000) (hkl:ks.length=l.length) (hk4:ks.length<=400) (hbS:hS.base<=hS.next) (K:MkR r G hS n0 f0 FT mb bk m eb em Gv lv rv xr xl sm tm tbl rks) (j1:IsMap hS sm) (j2:IsMap hS tm)
  (hW:∀t,W t->t.length=n) (hcap:∀Q:List Tx,Q.Nodup->(∀t∈Q,W t)->Q.length<=2000)
  (L:LSt R tbl sm tm hS BS FS h8 B8 F8 v8 ps8) (hps8:ps8.length<=1) (hW8:∀t∈aK ps8,W t)
  (hA:∀(i c:Nat) (x:ad),ks[i]? = some c->l[i]? = some x->gm R r G n0 f0 FT mb bk m eb em Gv lv rv xr xl sm tm tbl rks n c x)
  (hL:∀(i c:Nat) (x:ad),ks[i]? = some c->l[i]? = some x->Aq R x n->gA R r G n0 f0 FT mb bk m eb em Gv lv rv xr xl sm tm tbl rks n c x)
  (hxW:∀x∈l,∀u:Tx,u.length=n->mkM R x u->W u)
  (hld:∀(h':Hp),ExtS (Two sm tm) hS h'->∀(j c:Nat),ks[j]? = some c->∃b,A=some ⟨b,0,none⟩/\h'.load ⟨b,j,none⟩=some (.int .i64 (c:Int)))
  {a:Ev.A} {Q:Ex->Ev.A->Hp->Prop} (hna:a.n=200) (g0:a.get 0=.pointer (some ⟨mb,0,none⟩)) (g2:a.get 2=.int .i64 (n:Int)) (g11:a.get 11=v8) (g138:a.get 138=.slice A ks.length ks.length) (g139:a.get 139=.int .i64 (ks.length:Int)) (g140:a.get 140=.int .i64 0)
  (hq:∀(a1:Ev.A) (h9:Hp) (B9 F9:Nat->Prop) (v9:Value) (ps9:Prs),a1.n=200->LSt R tbl sm tm hS BS FS h9 B9 F9 v9 ps9->ps9.length<=1000000->(∀t∈aK ps9,W t)->(∀t,t∈aK ps9<->t∈aK ps8\/∃x∈l,t.length=n/\mkM R x t)->KeepE B8 F8 h8 h9->WideC h8 B8 F8 B9 F9->s9 a a1->a1.get 11=v9->Q (.exit 7) a1 h9) :
  Th Tryz.prog (aw Tryz.f28 [1,1,1,1,1,0,1,0,1,1,1,1,1,1,1,1,1,1,1,0]) a h8 Q ⟨⟩ ⟨⟩:=by
 simp only[aw,nav,Tryz.f28]
 refine au (n:=200) (by kernel_rfl) (fun m' a' h'=>∃(i:Nat) (B' F':Nat->Prop) (v':Value) (ps':Prs),i<=ks.length/\m'=ks.length - i/\LSt R tbl sm tm hS BS FS h' B' F' v' ps'/\ps'.length<=1+i*2000/\(∀t∈aK ps',W t)/\(∀t,t∈aK ps'<->t∈aK ps8\/∃j x,j<i/\l[j]? = some x/\t.length=n/\mkM R x t)/\KeepE B8 F8 h8 h'/\WideC h8 B8 F8 B' F'/\s9 a a' /\
   a'.get 11=v'/\a'.get 138=.slice A ks.length ks.length/\a'.get 139=.int .i64 (ks.length:Int)/\a'.get 140=.int .i64 (i:Int)) ?_ _ _ _ hna
  ⟨0,B8,F8,v8,ps8,lZr _,rfl,L,hps8,hW8,fun t=>⟨.inl,fun c=>c.elim id (fun ⟨p,_,c,_⟩=>absurd c (lNz _))⟩,(bT (Ext.refl _)).wide (fun _ _ c=>c.elim) (fun _ c=>c.elim),WideC.refl _ _ _,⟨rfl,rfl,rfl⟩,g11,g138,g139,g140⟩
 rintro m' a' h' hn' ⟨i,B',F',v',ps',hi,rfl,L',hps,hWp,hiff,Kk,Ww,X,e11,e138,e139,e140⟩
 by_cases hlt:i<ks.length
 rotate_left
 ·have c1:decide ((i:Int)<(ks.length:Int))=false:=dcF (by omega)
  simp -dsimp only[go_sem,e11,e138,e139,e140,c1]
  refine hq _ _ B' F' v' ps' (by simp -dsimp only[go_sem,hn']) L' ?_ hWp (fun t=>(hiff t).trans ⟨fun c=>c.imp id fun ⟨j,x,_,q1,q2⟩=>⟨x,mOg q1,q2⟩,fun c=>c.imp id fun ⟨x,q1,q2⟩ => ?_⟩) Kk Ww ?_ (by simp -dsimp only[go_sem,e11])
  ·have:i*2000<=400*2000:=Nat.mul_le_mul_right _ (by omega)
   omega
  ·unfold s9 at X ⊢
   simp -dsimp only[go_sem,X]
  ·obtain ⟨j,hj⟩:=List.getElem?_of_mem q1
   have:=(List.getElem?_eq_some_iff.1 hj).1
   exact ⟨j,x,by omega,hj,q2⟩
 have c1:decide ((i:Int)<(ks.length:Int))=true:=dcT (by omega)
 obtain ⟨e0,e2,e7⟩:=X
 have hki:ks[i]? = some ks[i]:=gEl hlt
 have hli:l[i]? = some (l[i]'(by omega)):=gEl _
 generalize ks[i]=c at hki
 generalize l[i]'(by omega)=x at hli
 have hxl:=mOg hli
 obtain ⟨bb,rfl,lk⟩:=hld h' L'.x i c hki
 have ik:ap Tryz.prog 71 (.slice (some ⟨bb,0,none⟩) ks.length ks.length) (.int .i64 (i:Int))=some (.pointer (some ⟨bb,i,none⟩)):=by
  have:=mB (b:=bb) (o:=0) (n:=ks.length) (c:=ks.length) (i:=i) hlt
  rwa[Nat.zero_add] at this
 have hws:=ah hlt (by omega:ks.length<=9223372036854775807)
 have hb':=L'.bn hbS
 obtain ⟨l0,M',S'⟩:=L'.m
 obtain ⟨_,h11,hs1,b1,l1,rfl,iff1,X1,M1,S1⟩:=hA i c x hki hli h' l0 (L'.mkr K j1 j2) hb' M' S' L'.i2
 obtain ⟨L1,K1⟩:=L'.callA K.st X1 M1 S1
 have Kk1:=Kk.step Ww K1
 have ext1:∀(ps9:Prs),(∀t,t∈aK ps9<->t∈aK ps'\/(t.length=n/\mkM R x t))->∀t,t∈aK ps9<->t∈aK ps8\/∃j x,j<i+1/\l[j]? = some x/\t.length=n/\mkM R x t:=by
  intro ps9 q t
  rw[q,hiff]
  constructor
  ·rintro ((c|⟨j,x',hj,c⟩)|c)
   ·exact .inl c
   ·exact .inr ⟨j,x',by omega,c⟩
   ·exact .inr ⟨i,x,by omega,hli,c⟩
  ·rintro (c|⟨j,x',hj,q1,q2⟩)
   ·exact .inl (.inl c)
   ·by_cases e:j=i
    ·subst e
     rw[hli] at q1
     injection q1 with q1
     subst q1
     exact .inr q2
    ·exact .inl (.inr ⟨j,x',by omega,q1,q2⟩)
 cases b1 with
 | false =>
   have no:∀t:Tx,¬(t.length=n/\mkM R x t):=fun t c=>absurd (iff1.2 ⟨t,c⟩) (by decide)
   simp -dsimp only[go_sem,e0,e2,g0,g2,e11,e138,e139,e140,c1,ik,lk]
   refine ⟨_,h11,hs1,?_⟩
   simp -dsimp only[go_sem,e0,e2,g0,g2,e11,e138,e139,e140,hws]
   exact ⟨ks.length - (i+1),by omega,i+1,B',F',v',ps',by omega,rfl,L1,by omega,hWp,ext1 ps' (fun t=>⟨.inl,fun c=>c.elim id (fun c=>absurd c (no t))⟩),Kk1,Ww,by unfold s9;simp -dsimp only[go_sem,e0,e2,e7],by simp -dsimp only[go_sem,e11,e138,e139]⟩
 | true =>
 have aq:=iff1.1 rfl
 have hpl:ps'.length<=1000000:=by
  have:i*2000<=400*2000:=Nat.mul_le_mul_right _ (by omega)
  omega
 obtain ⟨w2,h12,hs2,B12,F12,L2,O2,K2,W2⟩:=L1.clone hbS hpl
 have Kk2:=Kk1.step Ww K2
 have Ww2:=Ww.trans W2 Kk1.next Kk1.nfam
 have hb2:=L2.bn hbS
 obtain ⟨vxs,h13,hs3,⟨xs,gx1,gx2,gx3,gx4⟩,X3,M3,T3⟩:=hL i c x hki hli aq h12 B12 F12 L2.lt L2.ltf (L2.mkr K j1 j2) hb2 L2.m L2.tk
 have L3:=L2.call X3 M3 T3
 have K3:KeepE B12 F12 h12 h13:=jQ X3 L2.i1 L2.i2
 have Kk3:=Kk2.step Ww2 K3
 have O3:=O2.extM X3 L2.i1 L2.i2
 have hxl2:xs.length<=2000:=by
  have:=hcap _ (bL gx3) (fun t ht=>by
   have q:=(gx4 t).1 ht
   exact hxW x hxl t q.1 q.2)
  rwa[cj] at this
 have hx0:0<xs.length:=by
  obtain ⟨t,q⟩:=aq
  have:=(gx4 t).2 q
  obtain ⟨p,hp,_⟩:=List.mem_map.1 this
  exact List.length_pos_of_mem hp
 obtain ⟨v14,h14,B14,F14,ha4,O4,C4⟩:=DP O3 gx1.src (oP gx2.v) hx0 (L3.bn hbS) L3.x.next L3.x.nfam (by
  have:i*2000<=399*2000:=Nat.mul_le_mul_right _ (by omega)
  omega)
 have P4:PrK h14 B14 F14 (ps'++xs):=PrK.app (L3.p.step C4.keep C4.wide) (gx2.step C4.keep C4.wide)
 have L4:=L3.app C4 O4 P4
 have hsn:aK (ps'++xs)=aK ps'++aK xs:=by simp[aK]
 obtain ⟨A2,rfl⟩:=O2.len
 obtain ⟨Ax,cx,rfl,_⟩:=gx1.shape
 simp -dsimp only[go_sem,e0,e2,g0,g2,e11,e138,e139,e140,c1,ik,lk]
 refine ⟨_,h11,hs1,?_⟩
 simp -dsimp only[go_sem,e0,e2,g0,g2,e11,e138,e139,e140,hws]
 refine ⟨_,h12,hs2,?_⟩
 refine ⟨_,h13,hs3,?_⟩
 simp -dsimp only[go_sem,e0,e2,g0,g2,e11,e138,e139,e140,hws,bP,ha4]
 refine ⟨ks.length - (i+1),by omega,i+1,B14,F14,v14,ps'++xs,by omega,rfl,L4,by rw[List.length_append];omega,fun t ht => ?_,ext1 _ (fun t => ?_),Kk3.step Ww2 C4.keep,Ww2.trans C4.wide Kk3.next Kk3.nfam,by unfold s9;simp -dsimp only[go_sem,e0,e2,e7],rfl,rfl⟩
 ·rw[hsn] at ht
  rcases List.mem_append.1 ht with ht|ht
  ·exact hWp t ht
  ·have q:=(gx4 t).1 ht
   exact hxW x hxl t q.1 q.2
 ·rw[hsn,List.mem_append,gx4]
end
section
variable {r:Ro} {mb bk m eb:Nat} {FT:Nat->Nat} {Gv lv rv xr xl:Value} {G:List ar} {em:List Bool} {rks:List Nat}
variable {h h1 h2:Hp} {B F B' F' B2 F2 BS FS B8 F8:Nat->Prop} {R:ByteArray->Tx->Prop} {tbl:Tbl} {sm tm n0 f0:Nat} {hS h8:Hp}
theorem zy:Tryz.prog.underlying 68=some (.map 115 27):=Tryz.underlying68
theorem LSt.tidyG {v v0:Value} {ps ps0:Prs} {N:Nat} (mv:Value) (hbS:hS.base<=hS.next) (L:LSt R tbl sm tm hS BS FS h B F v0 ps0) (kv:LK h (fun _=>False) (fun _=>False) v ps) (P:PrK h B F ps) (hl:∀p∈ps,p.2.length=N) (hN:N<=1000000) (hps:ps.length<=1000000) (hcap:∀Q:List Tx,Q.Nodup->(∀t∈Q,t∈aK ps)->Q.length<=2000) :
  ∃w h1,Snd Tryz.prog 46 [mv,v] h w h1/\∃B' F' qs,LSt R tbl sm tm hS BS FS h1 B' F' w qs/\KeepE B F h h1/\WideC h B F B' F'/\aQ (aK qs)/\(∀t,t∈aK qs<->t∈aK ps)/\qs.length<=2000:=by
 obtain ⟨w,h1,hs,hx,qs,hO,hsub,hsort,hmem⟩:=zb (m:=mv) kv P.any hl hN hps (L.bn hbS) hcap
 obtain ⟨B',F',hw,hlt,hltf,hA⟩:=hO.toA (h:=h) (B:=B) (F:=F) (lRf _) (lRf _)
 have kE:KeepE B F h h1:=(bT hx).wide (fun _ _ c=>c.elim) (fun _ c=>c.elim)
 have hC:AppC h hS.next hS.nfam B F h1 B' F':=⟨kE,hw,fun S h0 q _ _=>q.trans hx.toS,fun y hy=>hx.objs y (lTl hy L.x.next),hlt,hltf⟩
 refine ⟨w,h1,hs,B',F',qs,L.app hC (hA.lower L.x.next L.x.nfam) ((P.sub hsub).step kE hw),kE,hw,hsort,hmem,?_⟩
 rw[<-cj]
 exact hcap _ (bL hsort) (fun t q=>(hmem t).1 q)
theorem LSt.single {v0 u:Value} {ps0:Prs} {t:Tx} (hbS:hS.base<=hS.next) (L:LSt R tbl sm tm hS BS FS h B F v0 ps0) (hu:TxK h B F u t) :
  ∃B' F',LSt R tbl sm tm hS BS FS (h.newH (.cells ⟨[u],34,0,0,false⟩)) B' F' (.slice (some ⟨h.next,0,none⟩) 1 1) [(u,t)]/\KeepE B F h (h.newH (.cells ⟨[u],34,0,0,false⟩))/\WideC h B F B' F':=by
 have hx:=Ext.new h (.cells ⟨[u],34,0,0,false⟩)
 have hw:=an (L.bn hbS) 34 [u]
 have hO:OwnC (h.newH (.cells ⟨[u],34,0,0,false⟩)) h.next h.nfam (.slice (some ⟨h.next,0,none⟩) 1 1) [(u,t)]:=.inr ⟨h.next,0,[],rfl,b8 hw,lRf _,fun e=>absurd rfl e⟩
 obtain ⟨B',F',hW,hlt,hltf,hA⟩:=hO.toA (h:=h) (B:=B) (F:=F) (lRf _) (lRf _)
 have kE:KeepE B F h (h.newH (.cells ⟨[u],34,0,0,false⟩)):=(bT hx).wide (fun _ _ c=>c.elim) (fun _ c=>c.elim)
 have hC:AppC h hS.next hS.nfam B F (h.newH (.cells ⟨[u],34,0,0,false⟩)) B' F':=⟨kE,hW,fun S h0 q _ _=>q.trans hx.toS,fun y hy=>hx.objs y (lTl hy L.x.next),hlt,hltf⟩
 refine ⟨B',F',L.app hC (hA.lower L.x.next L.x.nfam) (fun p hp => ?_),kE,hW⟩
 rw[List.mem_singleton] at hp
 subst hp
 exact hu.step kE hW
theorem LSt.start {l l2:fb} (x:Ext hS h) (hB:∀b,B b->b<hS.next) (hF:∀f,F f->f≠0/\f<hS.nfam) (m1:MemAt hS sm l) (m2:dE R tbl l) (t1:MemAt hS tm l2) (t2:TmOk R tbl hS B F l2):LSt R tbl sm tm hS B F h B F (.slice none 0 0) [] :=
 ⟨m1.1,t1.1,x.toS,WideC.refl _ _ _,fun b c=>lTl (hB b c) x.next,fun f c=>⟨(hF f c).1,lTl (hF f c).2 x.nfam⟩,⟨l,m1.extS (S:=fun _=>False) x.toS (fun c=>c),m2⟩,⟨l2,t1.extS (S:=fun _=>False) x.toS (fun c=>c),t2.step ((bT x).wide (fun _ _ c=>c.elim) (fun _ c=>c.elim)) (WideC.refl _ _ _)⟩,.inl ⟨rfl,rfl⟩,fun p hp=>by cases hp⟩
theorem LSt.finish {w:Value} {qs:Prs} {k n:Nat} {p:ad} (st:sm≠tm) (hbS:hS.base<=hS.next) (hN:Num tbl k p) (hB:∀b,BS b->b<hS.next) (hF:∀f,FS f->f≠0/\f<hS.nfam) (L:LSt R tbl sm tm hS BS FS h B F w qs) (hsort:aQ (aK qs)) (hmem:∀t,t∈aK qs<->t.length=n/\mkM R p t) :
  ∃o,bF Tryz.prog h 68 (.map (some tm)) (.agg #[.int .i64 (k:Int),.int .i64 (n:Int)]) w=some (h.put tm o)/\GoodL R (h.put tm o) BS FS p n w/\ExtS (Two sm tm) hS (h.put tm o)/\(∃l,MemAt (h.put tm o) sm l/\dE R tbl l)/\∃l,MemAt (h.put tm o) tm l/\TmOk R tbl (h.put tm o) BS FS l:=by
 obtain ⟨l,m1,m2⟩:=L.m
 obtain ⟨l2,t1,t2⟩:=L.tk
 obtain ⟨o,l2',u1,u2,u3⟩:=t1.update zy k n w
 have x1:ExtS (Two sm tm) h (h.put tm o):=((Ext.refl h).toS).put (.inr (.inr rfl)) o
 have kE:∀B F,KeepE B F h (h.put tm o):=fun B F=>jQ x1 L.i1 L.i2
 have good:GoodL R h BS FS p n w:=by
  refine ⟨qs,?_,L.p.more (fun b _ c=>L.w.b b c) (fun f c=>.inl (L.w.f f c)),hsort,hmem⟩
  rcases L.a with c|⟨b,f,js,e,hr,q1,q2,_⟩
  ·exact .inl c
  ·refine .inr ⟨b,f,js,e,hr,fun c => ?_,fun c => ?_⟩
   ·have:=hB b c;omega
   ·have q3:=hF f c
    have:=q2 q3.1
    omega
 have goodp:=good.step (kE BS FS) (WideC.refl _ _ _)
 refine ⟨o,u1,goodp,L.x.put (.inr (.inr rfl)) o,⟨l,?_,m2⟩,l2',u2,fun k' n' v' p' hm hN' => ?_⟩
 ·have x2:ExtS (aR tm) h (h.put tm o):=((Ext.refl h).toS).put (.inr (show aR tm tm from rfl)) o
  exact m1.extS x2 (fun c=>st c)
 ·rcases u3 _ hm with hm|e
  ·exact ((t2 k' n' v' p' hm hN').less L.w.b L.w.f).step (kE BS FS) (WideC.refl _ _ _)
  ·simp only[Prod.mk.injEq] at e
   obtain ⟨rfl,rfl,rfl⟩:=e
   rw[hN'.one hN]
   exact goodp
end
section
variable {r:Ro} {mb bk m eb:Nat} {FT:Nat->Nat} {Gv lv rv xr xl:Value} {G:List ar} {em:List Bool} {rks:List Nat}
variable {R:ByteArray->Tx->Prop} {tbl:Tbl} {sm tm n0 f0:Nat}
theorem qo {k n:Nat} {d t:ByteArray} {ps:List ad} {ks:List Nat} (hn9:n<=1000) (hN:Num tbl k ⟨d,t,ps⟩) (hk:tbl[k]? = some (⟨d,t,ps⟩,ks)) (hk4:ks.length<=400)
  (hkd:d.data.toList=[105,115]\/(d.data.toList=[114,117,108,101]/\ae (nms G) t<(nms G).length)\/d.data.toList=[110,111,116,104,105,110,103]\/(d.data.toList=[115,101,113]/\∃x y l',ps=x::y::l')\/(d.data.toList=[109,97,110,121]/\∃x,ps=[x])\/oY ⟨d,t,ps⟩)
  (hcap:∀Q:List Tx,Q.Nodup->(∀u∈Q,u.length=n/\mkM R ⟨d,t,ps⟩ u)->Q.length<=2000)
  (hrule:d.data.toList=[114,117,108,101]->∃k' p',rks[ae (nms G) t]? = some k'/\gA R r G n0 f0 FT mb bk m eb em Gv lv rv xr xl sm tm tbl rks n k' p'/\∀u:Tx,u.length=n->(mkM R ⟨d,t,ps⟩ u<->mkM R p' u))
  (htwo:d.data.toList=[115,101,113]->∀x y l',ps=x::y::l'->∃ka kb,ks=[ka,kb]/\(∀j,j<=n->gm R r G n0 f0 FT mb bk m eb em Gv lv rv xr xl sm tm tbl rks j ka x)/\(∀j,j<=n->Aq R x j->gm R r G n0 f0 FT mb bk m eb em Gv lv rv xr xl sm tm tbl rks (n - j) kb ⟨dx,noT,y::l'⟩) /\
   (∀j,j<=n->Aq R x j->Aq R ⟨dx,noT,y::l'⟩ (n - j)->gA R r G n0 f0 FT mb bk m eb em Gv lv rv xr xl sm tm tbl rks j ka x)/\∀j,j<=n->Aq R x j->Aq R ⟨dx,noT,y::l'⟩ (n - j)->gA R r G n0 f0 FT mb bk m eb em Gv lv rv xr xl sm tm tbl rks (n - j) kb ⟨dx,noT,y::l'⟩)
  (hmany:d.data.toList=[109,97,110,121]->∀x,ps=[x]->∃ka,ks=[ka]/\(∀j,j<=n->gm R r G n0 f0 FT mb bk m eb em Gv lv rv xr xl sm tm tbl rks j ka x)/\(∀j,j<=n->0<j->gm R r G n0 f0 FT mb bk m eb em Gv lv rv xr xl sm tm tbl rks (n - j) k ⟨d,t,ps⟩) /\
   (∀j,j<=n->0<j->Aq R x j->Aq R ⟨d,t,ps⟩ (n - j)->gA R r G n0 f0 FT mb bk m eb em Gv lv rv xr xl sm tm tbl rks j ka x)/\∀j,j<=n->0<j->Aq R x j->Aq R ⟨d,t,ps⟩ (n - j)->gA R r G n0 f0 FT mb bk m eb em Gv lv rv xr xl sm tm tbl rks (n - j) k ⟨d,t,ps⟩)
  (hkids:oY ⟨d,t,ps⟩->ks.length=ps.length/\(∀(i c:Nat) (x:ad),ks[i]? = some c->ps[i]? = some x->gm R r G n0 f0 FT mb bk m eb em Gv lv rv xr xl sm tm tbl rks n c x)/\∀(i c:Nat) (x:ad),ks[i]? = some c->ps[i]? = some x->Aq R x n->gA R r G n0 f0 FT mb bk m eb em Gv lv rv xr xl sm tm tbl rks n c x) :
  gA R r G n0 f0 FT mb bk m eb em Gv lv rv xr xl sm tm tbl rks n k ⟨d,t,ps⟩:=by
 intro h B F hBl hFl K hb hM0 hT0
 obtain ⟨l,hM,hS⟩:=hM0
 obtain ⟨l2,hT,hTk⟩:=hT0
 have i1:=hM.isMap
 have i2:=hT.isMap
 refine aL wf Tryz.func28 rfl rfl (n:=200) rfl (by kernel_rfl) rfl ?_
 intro a hn hg
 have hr:Tryz.f28.results.toList=[.tmp 6]:=rfl
 have g0:=hg 0
 have g1:=hg 1
 have g2:=hg 2
 clear hg
 simp only[gC0,gC1] at g0 g1 g2
 have m5:∀h':Hp,MkR r G h' n0 f0 FT mb bk m eb em Gv lv rv xr xl sm tm tbl rks->h'.load ⟨mb,5,none⟩=some (.map (some tm)):=fun h' k=>by rw[aa k.own];rfl
 have m6:∀h':Hp,MkR r G h' n0 f0 FT mb bk m eb em Gv lv rv xr xl sm tm tbl rks->h'.load ⟨mb,6,none⟩=some (.bool false):=fun h' k=>by rw[aa k.own];rfl
 have hw0:=an hb 115 [.int .i64 0,.int .i64 0]
 have hx0:=Ext.new h (ak.cells ⟨[.int .i64 0,.int .i64 0],115,0,0,false⟩)
 have hst:=aE (o:=0) (vs:=[.int .i64 (k:Int),.int .i64 (n:Int)]) (c1:=[.int .i64 (k:Int),.int .i64 (n:Int)]) hw0 rfl rfl (by simp)
 have hxA:=hx0.put (b:=h.next) (lRf _) (ak.cells ⟨[.int .i64 (k:Int),.int .i64 (n:Int)],115,0,0,false⟩)
 have hPA:=av hw0 [.int .i64 (k:Int),.int .i64 (n:Int)]
 have hnA:((h.newH (ak.cells ⟨[.int .i64 0,.int .i64 0],115,0,0,false⟩)).put h.next (ak.cells ⟨[.int .i64 (k:Int),.int .i64 (n:Int)],115,0,0,false⟩)).next=h.next+1:=rfl
 generalize hhA:(h.newH (ak.cells ⟨[.int .i64 0,.int .i64 0],115,0,0,false⟩)).put h.next (ak.cells ⟨[.int .i64 (k:Int),.int .i64 (n:Int)],115,0,0,false⟩)=hA at hst hxA hPA hnA
 have LA:=LSt.start hxA hBl hFl hM hS hT hTk
 have KA:=LA.mkr K i1 i2
 have hbA:hA.base<=hA.next:=LA.bn hb
 have TA:=hT.extS (S:=fun _=>False) hxA.toS (fun c=>c)
 have lk:=TA.lookup zy (z:=.slice none 0 0) (by kernel_rfl) k n
 unfold fF at lk
 have l2k:hA.loads ⟨h.next,0,none⟩ 2=some [.int .i64 (k:Int),.int .i64 (n:Int)]:=by rw[af hPA];rfl
 simp -dsimp only[go_sem,g0,g1,g2,zt,fF,b5,hst]
 refine aD (n:=200) [[],[0],[0,1],[0,1,2],[],[0,1,2,3,4],[0,1,2,3,4,5],[0,1,2,3,4,5,6],[0,1,2,3,4,5,6],[0,1,2,3,4,5,6,7],[0,1,2,3,4,5,6,7,8,9]] (by simp -dsimp only[go_sem,hn]) (ao (by kernel_rfl)) ?_
 cases hf:iC l2 k n 0 with
 | some v =>
   rw[hf] at lk
   have hgd:=hTk k n v.2 _ (lQ _ _ _ _ _ hf) hN
   obtain ⟨q,v⟩:=v
   simp only at lk hgd
   have hgA:=hgd.step ((bT hxA).wide (fun _ _ c=>c.elim) (fun _ c=>c.elim)) (WideC.refl _ _ _)
   obtain ⟨psv,kv1,_⟩:=hgd
   obtain ⟨Av,cv,rfl,hsp⟩:=kv1.shape
   simp -dsimp only[go_sem,g0,g1,g2,m5 hA KA,b5,l2k,lk,hr,ab hsp,ai]
   exact ⟨hgA,hxA.toS,LA.m,LA.tk⟩
 | none =>
 rw[hf] at lk
 simp only at lk
 simp -dsimp only[go_sem,g0,g1,g2,m5 hA KA,m6 hA KA,b5,l2k,lk]
 obtain ⟨b,b2,nL,n2,kv0,cs,e1,e2,e3,e4,hp,hl,_,_⟩:=KA.tab.get hk
 obtain ⟨Av,c,hcs⟩:=hp.shape
 have hlt:k<tbl.length:=(List.getElem?_eq_some_iff.1 hk).1
 have m1:hA.load ⟨mb,1,none⟩=some lv:=by rw[aa KA.own];rfl
 have ik:ap Tryz.prog 46 lv (.int .i64 (k:Int))=some (.pointer (some ⟨b,k*3,none⟩)):=by
  have:=oz (b:=b) (o:=0) (n:=nL) (c:=nL) (i:=k) (by omega)
  rw[e1]
  rwa[Nat.zero_add] at this
 have hwB:=an hbA 48 [.string ⟨#[]⟩,.string ⟨#[]⟩,.slice none 0 0]
 have hxB0:=Ext.new hA (ak.cells ⟨[.string ⟨#[]⟩,.string ⟨#[]⟩,.slice none 0 0],48,0,0,false⟩)
 have hstB:=aE (o:=0) (vs:=cs) (c1:=cs) hwB (by rw[hcs];rfl) (by rw[hcs];rfl) (by rw[hcs];simp)
 have hxB:=hxB0.put (b:=hA.next) (lRf _) (ak.cells { c:=cs,e:=48,fam:=0,base:=0,grown:=false })
 have hPB:=av hwB cs
 generalize hhB:(hA.newH (ak.cells ⟨[.string ⟨#[]⟩,.string ⟨#[]⟩,.slice none 0 0],48,0,0,false⟩)).put hA.next (ak.cells { c:=cs,e:=48,fam:=0,base:=0,grown:=false })=hB at hstB hxB hPB
 rw[hcs] at hstB hPB hl
 have hcs3:[Value.string d,Value.string t,Value.slice Av ps.length c].length=3:=rfl
 have LB:=LA.ext hxB
 have KB:=LB.mkr K i1 i2
 have hbB:hB.base<=hB.next:=LB.bn hb
 have hPA2:=aj hxB hPA
 have l0:hB.load ⟨hA.next,0,none⟩=some (.string d):=by rw[aa hPB];rfl
 have l1:hB.load ⟨hA.next,1,none⟩=some (.string t):=by rw[aa hPB];rfl
 have nB1:¬B h.next:=fun c=>by have:=hBl _ c;omega
 have nB2:¬B hA.next:=fun c=>by have:=hBl _ c;omega
 have nF0:¬F 0:=fun c=>(hFl 0 c).1 rfl
 have fin:∀(h':Hp) (B' F':Nat->Prop) (v0 v:Value) (ps0 qs:Prs),LSt R tbl sm tm h B F h' B' F' v0 ps0->LK h' (fun _=>False) (fun _=>False) v qs->PrK h' B' F' qs->qs.length<=1000000->(∀u,u∈aK qs<->u.length=n/\mkM R ⟨d,t,ps⟩ u)->KeepE B F hB h'->WideC hB B F B' F' ->
   ∃w h9,Snd Tryz.prog 46 [.pointer (some ⟨mb,0,none⟩),v] h' w h9/\h9.load ⟨mb,5,none⟩=some (.map (some tm))/\h9.loads ⟨h.next,0,none⟩ 2=some [.int .i64 (k:Int),.int .i64 (n:Int)]/\(∃A c nn,w=.slice A nn c/\spotless A=true)/\∃o,bF Tryz.prog h9 68 (.map (some tm)) (.agg #[.int .i64 (k:Int),.int .i64 (n:Int)]) w=some (h9.put tm o) /\
    GoodL R (h9.put tm o) B F ⟨d,t,ps⟩ n w/\ExtS (Two sm tm) h (h9.put tm o)/\(∃l,MemAt (h9.put tm o) sm l/\dE R tbl l)/\∃l,MemAt (h9.put tm o) tm l/\TmOk R tbl (h9.put tm o) B F l:=by
  intro h' B' F' v0 v ps0 qs L' kv P hlen hmem kE wW
  obtain ⟨w,h9,hs9,B9,F9,qs9,L9,K9,W9,so9,me9,_⟩:=L'.tidyG (N:=n) (.pointer (some ⟨mb,0,none⟩)) hb kv P (fun p hp=>((hmem p.2).1 (List.mem_map.2 ⟨p,hp,rfl⟩)).1) (by omega) hlen (fun Q q1 q2=>hcap Q q1 (fun u hu=>(hmem u).1 (q2 u hu)))
  obtain ⟨o,u1,u2⟩:=L9.finish K.st hb hN hBl hFl so9 (fun u=>(me9 u).trans (hmem u))
  obtain ⟨Aw,cw,e,hspw⟩:=L9.a.shape
  refine ⟨w,h9,hs9,m5 h9 (L9.mkr K i1 i2),?_,⟨Aw,cw,_,e,hspw⟩,o,u1,u2⟩
  have hr9:=(kE.step wW K9).rows _ _ _ _ (b8 hPA2) nB1 nF0
  rw[cB hr9]
  rfl
 simp -dsimp only[go_sem,g0,g1,g2,m1,ik,hl,hcs3,hstB,l0]
 rcases hkd with hd|⟨hd,hix⟩|hd|⟨hd,x,y,l',rfl⟩|⟨hd,x,rfl⟩|hd
 ·have c1:decide (d.data.toList=[105,115])=true:=dcT hd
  by_cases c0:n=1
  ·have cn:decide ((n:Int)=1)=true:=dcT (by omega)
   have hx1:=Ext.new hB (.cells ⟨[.string t],9,0,0,false⟩)
   have hw1:=an hbB 9 [.string t]
   have L1:=LB.ext hx1
   have hu:TxK (hB.newH (.cells ⟨[.string t],9,0,0,false⟩)) B F (.slice (some ⟨hB.next,0,none⟩) 1 1) [t]:=.inr ⟨hB.next,0,rfl,b8 hw1,fun c=>by have:=LB.lt _ c;omega,nF0⟩
   have hnx1:(hB.newH (.cells ⟨[.string t],9,0,0,false⟩)).next=hB.next+1:=rfl
   obtain ⟨B2,F2,L2,K2,W2⟩:=L1.single hb hu
   have kE1:KeepE B F hB (hB.newH (.cells ⟨[.string t],9,0,0,false⟩)):=(bT hx1).wide (fun _ _ c=>c.elim) (fun _ c=>c.elim)
   have hbs1:aY Tryz.prog 34 1 [(0,.string t)]=some (.cells ⟨[.string t],9,0,0,false⟩,fun b=>.slice (some ⟨b,0,none⟩) 1 1):=by
    rw[xG 1 (by decide)]
    rfl
   have hbs2:aY Tryz.prog 27 1 [(0,.slice (some ⟨hB.next,0,none⟩) 1 1)]=some (.cells ⟨[.slice (some ⟨hB.next,0,none⟩) 1 1],34,0,0,false⟩,fun b=>.slice (some ⟨b,0,none⟩) 1 1):=by
    rw[uH 1 (by decide)]
    rfl
   generalize hhC:hB.newH (.cells ⟨[.string t],9,0,0,false⟩)=hC at *
   obtain ⟨w,h9,q1,q2,q3,⟨Aw,cw,nw,rfl,hspw⟩,o,q4,q5⟩:=fin _ B2 F2 _ _ _ _ L2 L2.a.toL L2.p (by simp) (fun u=>by
    subst c0
    simp only[aK,List.map_cons,List.map_nil,List.mem_singleton]
    rw[sY hd]
    exact ⟨fun e=>⟨by rw[e];rfl,e⟩,fun e=>e.2⟩) (kE1.step (WideC.refl _ _ _) K2) ((WideC.refl hB B F).trans W2 kE1.next kE1.nfam)
   simp -dsimp only[go_sem,g0,g1,g2,c1,cn,l1,hbs1,hhC,hbs2]
   refine ⟨_,h9,q1,?_⟩
   refine aD (n:=200) [[],[0],[0,1],[0,1,2],[],[],[0,1,2,3,4,5]] (by simp -dsimp only[go_sem,hn]) (ao (by kernel_rfl)) ?_
   simp -dsimp only[go_sem,g0,g1,g2,b5,q2,q3,q4,hr,ab hspw]
   exact q5
  ·have cn:decide ((n:Int)=1)=false:=dcF (by omega)
   obtain ⟨w,h9,q1,q2,q3,⟨Aw,cw,nw,rfl,hspw⟩,o,q4,q5⟩:=fin hB B F _ _ _ [] LB LB.a.toL LB.p (by simp) (fun u=>by
    rw[sY hd]
    simp only[aK,List.map_nil,List.not_mem_nil,false_iff]
    rintro ⟨e1,e2⟩
    rw[e2] at e1
    exact c0 e1.symm) ((bT (Ext.refl _)).wide (fun _ _ c=>c.elim) (fun _ c=>c.elim)) (WideC.refl _ _ _)
   simp -dsimp only[go_sem,g0,g1,g2,c1,cn]
   refine ⟨_,h9,q1,?_⟩
   refine aD (n:=200) [[],[0],[0,1],[0,1,2],[],[],[0,1,2,3,4,5]] (by simp -dsimp only[go_sem,hn]) (ao (by kernel_rfl)) ?_
   simp -dsimp only[go_sem,g0,g1,g2,b5,q2,q3,q4,hr,ab hspw]
   exact q5
 ·have c1:decide (d.data.toList=[105,115])=false:=dcF (by rw[hd];decide)
  have c2:decide (d.data.toList=[110,111,116,104,105,110,103])=false:=dcF (by rw[hd];decide)
  have c3:decide (d.data.toList=[114,117,108,101])=true:=dcT hd
  obtain ⟨k',p',w1,w2,w3⟩:=hrule hd
  obtain ⟨rb,rN,rfl,w4,w5⟩:=rF KB.rule w1
  obtain ⟨v8,h8,hs8,⟨ps8,gv1,gv2,gv3,gv4⟩,X8,M8,T8⟩:=w2 hB B F LB.lt LB.ltf KB hbB LB.m LB.tk
  have L8:=LB.call X8 M8 T8
  have hmem8:∀u,u∈aK ps8<->u.length=n/\mkM R ⟨d,t,ps⟩ u:=fun u=>by
   rw[gv4]
   exact ⟨fun c=>⟨c.1,(w3 u c.1).2 c.2⟩,fun c=>⟨c.1,(w3 u c.1).1 c.2⟩⟩
  have hlen8:ps8.length<=2000:=by
   have:=hcap _ (bL gv3) (fun u hu=>(hmem8 u).1 hu)
   rwa[cj] at this
  obtain ⟨w,h9,q1,q2,q3,⟨Aw,cw,nw,rfl,hspw⟩,o,q4,q5⟩:=fin h8 B F _ _ _ ps8 L8 (gv1.more (fun _ _ c=>c.elim) (fun _ c=>c.elim)) gv2 (by omega) hmem8 (jQ X8 LB.i1 LB.i2) (WideC.refl _ _ _)
  obtain ⟨A8,c8,rfl,hsp8⟩:=gv1.shape
  have m3:hB.load ⟨mb,3,none⟩=some (.slice (some ⟨rb,0,none⟩) rN rN):=by rw[aa KB.own];rfl
  have m0:hB.load ⟨mb,0,none⟩=some (.pointer (some ⟨bk,0,none⟩)):=by rw[aa KB.own];rfl
  have mk1:hB.load ⟨bk,1,none⟩=some (.map (some m)):=by rw[aa KB.book.own];rfl
  have lkb:=KB.book.lookup hix false
  rw[if_neg (by decide)] at lkb
  have ir:ap Tryz.prog 71 (.slice (some ⟨rb,0,none⟩) rN rN) (.int .i64 (ae (nms G) t:Int))=some (.pointer (some ⟨rb,ae (nms G) t,none⟩)):=by
   have:=mB (b:=rb) (o:=0) (n:=rN) (c:=rN) (i:=ae (nms G) t) w4
   rwa[Nat.zero_add] at this
  have s1:aB 9 (.slice (some ⟨rb,0,none⟩) rN rN) (.slice (some ⟨rb,0,none⟩) rN rN)=true:=by simp[aB]
  simp -dsimp only[go_sem,g0,g1,g2,c1,c2,c3]
  refine aD (n:=200) [[],[],[1],[1,2],[1,2,3],[],[5],[5,6],[5,6,7],[5,6,7,8],[5,6,7,8,9],[5,6,7,8,9,10],[],[12],[5,6,7,8,9,10,11,12,13],[1,2,3,4,5,6,7,8,9,10,11,12,13,14],[1,2,3,4,5,6,7,8,9,10,11,12,13,14,15],[],[0,1,2,3,4,5,6,7,8,9,10,11,12,13,14,15,16,17],[0,1,2,3,4,5,6,7,8,9,10,11,12,13,14,15,16,17,18]] (by simp -dsimp only[go_sem,hn]) (ao (by kernel_rfl)) ?_
  simp -dsimp only[go_sem,g0,g1,g2,m3,m0,mk1,l1,lkb,ir,w5,s1]
  refine ⟨_,h8,hs8,?_⟩
  simp -dsimp only[go_sem,g0,g1,g2,ab hsp8]
  refine ⟨_,h9,q1,?_⟩
  refine aD (n:=200) [[],[0],[0,1],[0,1,2],[],[],[0,1,2,3,4,5]] (by simp -dsimp only[go_sem,hn]) (ao (by kernel_rfl)) ?_
  simp -dsimp only[go_sem,g0,g1,g2,b5,q2,q3,q4,hr,ab hspw]
  exact q5
 ·have c1:decide (d.data.toList=[105,115])=false:=dcF (by rw[hd];decide)
  have c2:decide (d.data.toList=[110,111,116,104,105,110,103])=true:=dcT hd
  have hbs2:aY Tryz.prog 27 1 [(0,.slice none 0 0)]=some (.cells ⟨[.slice none 0 0],34,0,0,false⟩,fun b=>.slice (some ⟨b,0,none⟩) 1 1):=by
   rw[uH 1 (by decide)]
   rfl
  by_cases c0:n=0
  ·have cn:decide ((n:Int)=0)=true:=dcT (by omega)
   obtain ⟨B2,F2,L2,K2,W2⟩:=LB.single (u:=.slice none 0 0) (t:=[]) hb (.inl ⟨rfl,rfl⟩)
   generalize hhC:hB.newH (.cells ⟨[.slice none 0 0],34,0,0,false⟩)=hC at *
   obtain ⟨w,h9,q1,q2,q3,⟨Aw,cw,nw,rfl,hspw⟩,o,q4,q5⟩:=fin hC B2 F2 _ _ _ _ L2 L2.a.toL L2.p (by simp) (fun u=>by
    subst c0
    simp only[aK,List.map_cons,List.map_nil,List.mem_singleton]
    rw[ga hd]
    exact ⟨fun e=>⟨by rw[e];rfl,e⟩,fun e=>e.2⟩) K2 W2
   simp -dsimp only[go_sem,g0,g1,g2,c1,c2,cn,hbs2,hhC]
   refine ⟨_,h9,q1,?_⟩
   refine aD (n:=200) [[],[0],[0,1],[0,1,2],[],[],[0,1,2,3,4,5]] (by simp -dsimp only[go_sem,hn]) (ao (by kernel_rfl)) ?_
   simp -dsimp only[go_sem,g0,g1,g2,b5,q2,q3,q4,hr,ab hspw]
   exact q5
  ·have cn:decide ((n:Int)=0)=false:=dcF (by omega)
   obtain ⟨w,h9,q1,q2,q3,⟨Aw,cw,nw,rfl,hspw⟩,o,q4,q5⟩:=fin hB B F _ _ _ [] LB LB.a.toL LB.p (by simp) (fun u=>by
    rw[ga hd]
    simp only[aK,List.map_nil,List.not_mem_nil,false_iff]
    rintro ⟨e1,e2⟩
    rw[e2] at e1
    exact c0 e1.symm) ((bT (Ext.refl _)).wide (fun _ _ c=>c.elim) (fun _ c=>c.elim)) (WideC.refl _ _ _)
   simp -dsimp only[go_sem,g0,g1,g2,c1,c2,cn]
   refine ⟨_,h9,q1,?_⟩
   refine aD (n:=200) [[],[0],[0,1],[0,1,2],[],[],[0,1,2,3,4,5]] (by simp -dsimp only[go_sem,hn]) (ao (by kernel_rfl)) ?_
   simp -dsimp only[go_sem,g0,g1,g2,b5,q2,q3,q4,hr,ab hspw]
   exact q5
 ·have c1:decide (d.data.toList=[105,115])=false:=dcF (by rw[hd];decide)
  have c2:decide (d.data.toList=[110,111,116,104,105,110,103])=false:=dcF (by rw[hd];decide)
  have c3:decide (d.data.toList=[114,117,108,101])=false:=dcF (by rw[hd];decide)
  have nm:¬d.data.toList=[109,97,110,121]:=by rw[hd];decide
  have c4:decide (d.data.toList=[109,97,110,121])=false:=dcF nm
  have c5:decide (d.data.toList=[111,112,116])=false:=dcF (by rw[hd];decide)
  obtain ⟨ka,kb,rfl,hka,hkb2,hla,hlb⟩:=htwo hd x y l' rfl
  have mem2:∀ps10:Prs,(∀u,u∈aK ps10<->u∈aK ([]:Prs)\/∃j,j<n+1/\(0<j\/¬d.data.toList=[109,97,110,121])/\∃u' v:Tx,u'.length=j/\mkM R x u'/\v.length=n - j/\mkM R ⟨dx,noT,y::l'⟩ v/\u=u'++v)->∀u,u∈aK ps10<->u.length=n/\mkM R ⟨d,t,x::y::l'⟩ u:=by
   intro ps10 q u
   rw[q,lR hd]
   constructor
   ·rintro (c|⟨j,hj,_,u',v,w1,w2,w3,w4,w5⟩)
    ·exact absurd c (by simp[aK])
    ·exact ⟨by rw[w5,List.length_append];omega,u',v,w5,w2,w4⟩
   ·rintro ⟨w1,u',v,w5,w2,w4⟩
    rw[w5,List.length_append] at w1
    exact .inr ⟨u'.length,by omega,.inr nm,u',v,rfl,w2,by omega,w4,w5⟩
  by_cases c0:n=0
  ·have cn:decide ((n:Int)=0)=true:=dcT (by omega)
   obtain ⟨_,h8,hs8,rfl,X8⟩:=fg (LB.mkr K i1 i2) (LB.bn hb) hk (fun _=>by simp) (fun _ _=>by simp)
   have L8:=LB.ext X8
   unfold fz at hs8
   rw[if_neg nm,if_pos ⟨hd,by simp⟩] at hs8
   simp only[List.headD_cons,List.getD_cons_succ,List.getD_cons_zero] at hs8
   have hP8:=b8 (aj X8 hPB)
   have nB8:¬B hA.next:=nB2
   have kE8:KeepE B F hB h8:=(bT X8).wide (fun _ _ c=>c.elim) (fun _ c=>c.elim)
   have wW8:WideC hB B F B F:=WideC.refl _ _ _
   simp -dsimp only[go_sem,g0,g1,g2,c1,c2,c3,c4,c5,cn,l0,ai]
   refine ⟨_,h8,hs8,?_⟩
   simp -dsimp only[go_sem,g0,g1,g2]
   refine rG (x:=x) (y:=⟨dx,noT,y::l'⟩) (d:=d) (W:=fun u=>u.length=n/\mkM R ⟨d,t,x::y::l'⟩ u) hn9 hb K i1 i2 (fun u c=>c.1) hcap L8 (by simp) (fun u c=>by simp[aK] at c) hP8 nB8 (fun j hj _=>hka j hj) (fun j hj _ ha=>hkb2 j hj ha) (fun j hj _ ha hb=>hla j hj ha hb) (fun j hj _ ha hb=>hlb j hj ha hb) (fun j hj _ u v w1 w2 w3 w4=>⟨by rw[List.length_append];omega,(lR hd _).2 ⟨u,v,rfl,w2,w4⟩⟩) (by simp -dsimp only[go_sem,hn]) (by simp -dsimp only[go_sem,g0]) (by simp -dsimp only[go_sem,g2]) (by simp -dsimp only[go_sem]) (by simp -dsimp only[go_sem];try rfl) (by simp -dsimp only[go_sem];try rfl) (by simp -dsimp only[go_sem]) (by simp -dsimp only[go_sem]) (fun a1 h10 B10 F10 v10 ps10 hn1 L10 len10 W10 iff10 K10 Wi10 X10 p11 => ?_)
   obtain ⟨y0,y1,y2,y7,y10,y12,y13⟩:=X10
   obtain ⟨w,h9,q1,q2,q3,⟨Aw,cw,nw,rfl,hspw⟩,o,q4,q5⟩:=fin h10 B10 F10 v10 v10 ps10 ps10 L10 L10.a.toL L10.p (by omega) (mem2 ps10 iff10) (kE8.step wW8 K10) (wW8.trans Wi10 kE8.next kE8.nfam)
   simp -dsimp only[go_sem,y0,y7,g0,p11]
   refine ⟨_,h9,q1,?_⟩
   refine aD (n:=200) [[],[0],[0,1],[0,1,2],[],[],[0,1,2,3,4,5]] (by simp -dsimp only[go_sem,hn1]) (ao (by kernel_rfl)) ?_
   simp -dsimp only[go_sem,y0,y7,g0,p11,b5,q2,q3,q4,hr,ab hspw]
   exact q5
  ·have cn:decide ((n:Int)=0)=false:=dcF (by omega)
   obtain ⟨_,h8,hs8,rfl,X8⟩:=fg (LB.mkr K i1 i2) (LB.bn hb) hk (fun _=>by simp) (fun _ _=>by simp)
   have L8:=LB.ext X8
   unfold fz at hs8
   rw[if_neg nm,if_pos ⟨hd,by simp⟩] at hs8
   simp only[List.headD_cons,List.getD_cons_succ,List.getD_cons_zero] at hs8
   have hP8:=b8 (aj X8 hPB)
   have nB8:¬B hA.next:=nB2
   have kE8:KeepE B F hB h8:=(bT X8).wide (fun _ _ c=>c.elim) (fun _ c=>c.elim)
   have wW8:WideC hB B F B F:=WideC.refl _ _ _
   simp -dsimp only[go_sem,g0,g1,g2,c1,c2,c3,c4,c5,cn,l0,ai]
   refine ⟨_,h8,hs8,?_⟩
   simp -dsimp only[go_sem,g0,g1,g2]
   refine rG (x:=x) (y:=⟨dx,noT,y::l'⟩) (d:=d) (W:=fun u=>u.length=n/\mkM R ⟨d,t,x::y::l'⟩ u) hn9 hb K i1 i2 (fun u c=>c.1) hcap L8 (by simp) (fun u c=>by simp[aK] at c) hP8 nB8 (fun j hj _=>hka j hj) (fun j hj _ ha=>hkb2 j hj ha) (fun j hj _ ha hb=>hla j hj ha hb) (fun j hj _ ha hb=>hlb j hj ha hb) (fun j hj _ u v w1 w2 w3 w4=>⟨by rw[List.length_append];omega,(lR hd _).2 ⟨u,v,rfl,w2,w4⟩⟩) (by simp -dsimp only[go_sem,hn]) (by simp -dsimp only[go_sem,g0]) (by simp -dsimp only[go_sem,g2]) (by simp -dsimp only[go_sem]) (by simp -dsimp only[go_sem];try rfl) (by simp -dsimp only[go_sem];try rfl) (by simp -dsimp only[go_sem]) (by simp -dsimp only[go_sem]) (fun a1 h10 B10 F10 v10 ps10 hn1 L10 len10 W10 iff10 K10 Wi10 X10 p11 => ?_)
   obtain ⟨y0,y1,y2,y7,y10,y12,y13⟩:=X10
   obtain ⟨w,h9,q1,q2,q3,⟨Aw,cw,nw,rfl,hspw⟩,o,q4,q5⟩:=fin h10 B10 F10 v10 v10 ps10 ps10 L10 L10.a.toL L10.p (by omega) (mem2 ps10 iff10) (kE8.step wW8 K10) (wW8.trans Wi10 kE8.next kE8.nfam)
   simp -dsimp only[go_sem,y0,y7,g0,p11]
   refine ⟨_,h9,q1,?_⟩
   refine aD (n:=200) [[],[0],[0,1],[0,1,2],[],[],[0,1,2,3,4,5]] (by simp -dsimp only[go_sem,hn1]) (ao (by kernel_rfl)) ?_
   simp -dsimp only[go_sem,y0,y7,g0,p11,b5,q2,q3,q4,hr,ab hspw]
   exact q5
 ·have c1:decide (d.data.toList=[105,115])=false:=dcF (by rw[hd];decide)
  have c2:decide (d.data.toList=[110,111,116,104,105,110,103])=false:=dcF (by rw[hd];decide)
  have c3:decide (d.data.toList=[114,117,108,101])=false:=dcF (by rw[hd];decide)
  have c4:decide (d.data.toList=[109,97,110,121])=true:=dcT hd
  have nsq:¬d.data.toList=[115,101,113]:=by rw[hd];decide
  obtain ⟨ka,rfl,hka,hkb2,hla,hlb⟩:=hmany hd x rfl
  have hbs2:aY Tryz.prog 27 1 [(0,.slice none 0 0)]=some (.cells ⟨[.slice none 0 0],34,0,0,false⟩,fun b=>.slice (some ⟨b,0,none⟩) 1 1):=by
   rw[uH 1 (by decide)]
   rfl
  have mem2:∀(ps10 ps0:Prs),(∀u:Tx,u∈aK ps0<->u=[]/\n=0)->(∀u,u∈aK ps10<->u∈aK ps0\/∃j,j<n+1/\(0<j\/¬d.data.toList=[109,97,110,121])/\∃u' v:Tx,u'.length=j/\mkM R x u'/\v.length=n - j/\mkM R ⟨d,t,[x]⟩ v/\u=u'++v)->∀u,u∈aK ps10<->u.length=n/\mkM R ⟨d,t,[x]⟩ u:=by
   intro ps10 ps0 q0 q u
   rw[q,q0]
   constructor
   ·rintro (⟨rfl,c⟩|⟨j,hj,h0,u',v,w1,w2,w3,w4,w5⟩)
    ·exact ⟨c.symm,(eL hd _).2 (.inl rfl)⟩
    ·have h0:=h0.resolve_right (fun c=>c hd)
     exact ⟨by rw[w5,List.length_append];omega,(eL hd _).2 (.inr ⟨u',v,List.length_pos_iff.1 (by omega),w5,w2,w4⟩)⟩
   ·rintro ⟨w1,w2⟩
    rcases (eL hd _).1 w2 with rfl|⟨u',v,hu,w5,w3,w4⟩
    ·exact .inl ⟨rfl,w1.symm⟩
    ·rw[w5,List.length_append] at w1
     exact .inr ⟨u'.length,by omega,.inl (List.length_pos_iff.2 hu),u',v,rfl,w3,by omega,w4,w5⟩
  by_cases c0:n=0
  ·have cn:decide ((n:Int)=0)=true:=dcT (by omega)
   obtain ⟨B2,F2,L2,K2,W2⟩:=LB.single (u:=.slice none 0 0) (t:=[]) hb (.inl ⟨rfl,rfl⟩)
   generalize hhC:hB.newH (.cells ⟨[.slice none 0 0],34,0,0,false⟩)=hC at *
   obtain ⟨_,h8,hs8,rfl,X8⟩:=fg (L2.mkr K i1 i2) (L2.bn hb) hk (fun _=>by simp) (fun e _=>absurd e nsq)
   have L8:=L2.ext X8
   unfold fz at hs8
   rw[if_pos hd] at hs8
   simp only[List.headD_cons] at hs8
   have hP8:=X8.toS (S:=fun _=>False) |> fun q=>bR q (K2.rows _ _ _ _ (b8 hPB) nB2 nF0) (fun c=>c)
   have nB8:¬B2 hA.next:=fun c=>nB2 (W2.nb _ hPB.2.1 c)
   have kE8:KeepE B F hB h8:=K2.step W2 ((bT X8).wide (fun _ _ c=>c.elim) (fun _ c=>c.elim))
   have wW8:WideC hB B F B2 F2:=W2
   simp -dsimp only[go_sem,g0,g1,g2,c1,c2,c3,c4,cn,l0,ai,hbs2,hhC]
   refine ⟨_,h8,hs8,?_⟩
   simp -dsimp only[go_sem,g0,g1,g2]
   refine rG (x:=x) (y:=⟨d,t,[x]⟩) (d:=d) (W:=fun u=>u.length=n/\mkM R ⟨d,t,[x]⟩ u) hn9 hb K i1 i2 (fun u c=>c.1) hcap L8 (by simp) (fun u c=>by
    simp[aK] at c
    subst c
    exact ⟨c0.symm,(eL hd _).2 (.inl rfl)⟩) hP8 nB8 (fun j hj _=>hka j hj) (fun j hj h0 _=>hkb2 j hj (h0.resolve_right (fun c=>c hd))) (fun j hj h0 ha hb=>hla j hj (h0.resolve_right (fun c=>c hd)) ha hb) (fun j hj h0 ha hb=>hlb j hj (h0.resolve_right (fun c=>c hd)) ha hb) (fun j hj h0 u v w1 w2 w3 w4=>⟨by rw[List.length_append];omega,(eL hd _).2 (.inr ⟨u,v,List.length_pos_iff.1 (by have:=h0.resolve_right (fun c=>c hd);omega),rfl,w2,w4⟩)⟩) (by simp -dsimp only[go_sem,hn]) (by simp -dsimp only[go_sem,g0]) (by simp -dsimp only[go_sem,g2]) (by simp -dsimp only[go_sem]) (by simp -dsimp only[go_sem];try rfl) (by simp -dsimp only[go_sem];try rfl) (by simp -dsimp only[go_sem]) (by simp -dsimp only[go_sem]) (fun a1 h10 B10 F10 v10 ps10 hn1 L10 len10 W10 iff10 K10 Wi10 X10 p11 => ?_)
   obtain ⟨y0,y1,y2,y7,y10,y12,y13⟩:=X10
   obtain ⟨w,h9,q1,q2,q3,⟨Aw,cw,nw,rfl,hspw⟩,o,q4,q5⟩:=fin h10 B10 F10 v10 v10 ps10 ps10 L10 L10.a.toL L10.p (by omega) (mem2 ps10 _ (fun u=>by simp[aK,c0]) iff10) (kE8.step wW8 K10) (wW8.trans Wi10 kE8.next kE8.nfam)
   simp -dsimp only[go_sem,y0,y7,g0,p11]
   refine ⟨_,h9,q1,?_⟩
   refine aD (n:=200) [[],[0],[0,1],[0,1,2],[],[],[0,1,2,3,4,5]] (by simp -dsimp only[go_sem,hn1]) (ao (by kernel_rfl)) ?_
   simp -dsimp only[go_sem,y0,y7,g0,p11,b5,q2,q3,q4,hr,ab hspw]
   exact q5
  ·have cn:decide ((n:Int)=0)=false:=dcF (by omega)
   obtain ⟨_,h8,hs8,rfl,X8⟩:=fg (LB.mkr K i1 i2) (LB.bn hb) hk (fun _=>by simp) (fun e _=>absurd e nsq)
   have L8:=LB.ext X8
   unfold fz at hs8
   rw[if_pos hd] at hs8
   simp only[List.headD_cons] at hs8
   have hP8:=b8 (aj X8 hPB)
   have nB8:¬B hA.next:=nB2
   have kE8:KeepE B F hB h8:=(bT X8).wide (fun _ _ c=>c.elim) (fun _ c=>c.elim)
   have wW8:WideC hB B F B F:=WideC.refl _ _ _
   simp -dsimp only[go_sem,g0,g1,g2,c1,c2,c3,c4,cn,l0,ai]
   refine ⟨_,h8,hs8,?_⟩
   simp -dsimp only[go_sem,g0,g1,g2]
   refine rG (x:=x) (y:=⟨d,t,[x]⟩) (d:=d) (W:=fun u=>u.length=n/\mkM R ⟨d,t,[x]⟩ u) hn9 hb K i1 i2 (fun u c=>c.1) hcap L8 (by simp) (fun u c=>by simp[aK] at c) hP8 nB8 (fun j hj _=>hka j hj) (fun j hj h0 _=>hkb2 j hj (h0.resolve_right (fun c=>c hd))) (fun j hj h0 ha hb=>hla j hj (h0.resolve_right (fun c=>c hd)) ha hb) (fun j hj h0 ha hb=>hlb j hj (h0.resolve_right (fun c=>c hd)) ha hb) (fun j hj h0 u v w1 w2 w3 w4=>⟨by rw[List.length_append];omega,(eL hd _).2 (.inr ⟨u,v,List.length_pos_iff.1 (by have:=h0.resolve_right (fun c=>c hd);omega),rfl,w2,w4⟩)⟩) (by simp -dsimp only[go_sem,hn]) (by simp -dsimp only[go_sem,g0]) (by simp -dsimp only[go_sem,g2]) (by simp -dsimp only[go_sem]) (by simp -dsimp only[go_sem];try rfl) (by simp -dsimp only[go_sem];try rfl) (by simp -dsimp only[go_sem]) (by simp -dsimp only[go_sem]) (fun a1 h10 B10 F10 v10 ps10 hn1 L10 len10 W10 iff10 K10 Wi10 X10 p11 => ?_)
   obtain ⟨y0,y1,y2,y7,y10,y12,y13⟩:=X10
   obtain ⟨w,h9,q1,q2,q3,⟨Aw,cw,nw,rfl,hspw⟩,o,q4,q5⟩:=fin h10 B10 F10 v10 v10 ps10 ps10 L10 L10.a.toL L10.p (by omega) (mem2 ps10 _ (fun u=>by simp[aK,c0]) iff10) (kE8.step wW8 K10) (wW8.trans Wi10 kE8.next kE8.nfam)
   simp -dsimp only[go_sem,y0,y7,g0,p11]
   refine ⟨_,h9,q1,?_⟩
   refine aD (n:=200) [[],[0],[0,1],[0,1,2],[],[],[0,1,2,3,4,5]] (by simp -dsimp only[go_sem,hn1]) (ao (by kernel_rfl)) ?_
   simp -dsimp only[go_sem,y0,y7,g0,p11,b5,q2,q3,q4,hr,ab hspw]
   exact q5
 ·have nm:¬d.data.toList=[109,97,110,121]:=by
   rcases hd with hd|hd|hd
   ·rw[show d.data.toList=_ from hd];decide
   ·rw[show d.data.toList=_ from hd];decide
   ·rw[show d.data.toList=_ from hd.1];decide
  have c1:decide (d.data.toList=[105,115])=false:=dcF (by
   rcases hd with hd|hd|hd
   ·rw[show d.data.toList=_ from hd];decide
   ·rw[show d.data.toList=_ from hd];decide
   ·rw[show d.data.toList=_ from hd.1];decide)
  have c2:decide (d.data.toList=[110,111,116,104,105,110,103])=false:=dcF (by
   rcases hd with hd|hd|hd
   ·rw[show d.data.toList=_ from hd];decide
   ·rw[show d.data.toList=_ from hd];decide
   ·rw[show d.data.toList=_ from hd.1];decide)
  have c3:decide (d.data.toList=[114,117,108,101])=false:=dcF (by
   rcases hd with hd|hd|hd
   ·rw[show d.data.toList=_ from hd];decide
   ·rw[show d.data.toList=_ from hd];decide
   ·rw[show d.data.toList=_ from hd.1];decide)
  have nsq:d.data.toList=[115,101,113]->¬ 1<ps.length:=by
   intro e
   rcases hd with hd|hd|hd
   ·rw[show d.data.toList=_ from hd] at e;exact absurd e (by decide)
   ·rw[show d.data.toList=_ from hd] at e;exact absurd e (by decide)
   ·have:ps.length=1:=hd.2
    omega
  have c4:decide (d.data.toList=[109,97,110,121])=false:=dcF nm
  obtain ⟨hkl,hka,hla⟩:=hkids hd
  have hbs2:aY Tryz.prog 27 1 [(0,.slice none 0 0)]=some (.cells ⟨[.slice none 0 0],34,0,0,false⟩,fun b=>.slice (some ⟨b,0,none⟩) 1 1):=by
   rw[uH 1 (by decide)]
   rfl
  have mkk:∀u:Tx,mkM R ⟨d,t,ps⟩ u<->(u=[]/\d.data.toList=[111,112,116])\/∃x∈ps,mkM R x u:=by
   intro u
   rcases hd with hd|hd|⟨hd,hl1⟩
   ·have hd:d.data.toList=[111,114]:=hd
    rw[qk hd]
    exact ⟨.inr,fun c=>c.elim (fun c=>by rw[hd] at c;exact absurd c.2 (by decide)) id⟩
   ·have hd:d.data.toList=[111,112,116]:=hd
    rw[lS hd]
    exact ⟨fun c=>c.imp (fun c=>⟨c,hd⟩) id,fun c=>c.imp (fun c=>c.1) id⟩
   ·have hd:d.data.toList=[115,101,113]:=hd
    obtain ⟨x,e⟩:∃x,ps=[x]:=List.length_eq_one_iff.1 hl1
    subst e
    rw[ng hd]
    exact ⟨fun c=>.inr ⟨x,.head _,c⟩,fun c=>c.elim (fun c=>by rw[hd] at c;exact absurd c.2 (by decide)) (fun ⟨y,hy,c⟩=>by rw[List.mem_singleton] at hy;rw[<-hy];exact c)⟩
  have mem2:∀(ps10 ps0:Prs),(∀u:Tx,u∈aK ps0<->u=[]/\n=0/\d.data.toList=[111,112,116])->(∀u,u∈aK ps10<->u∈aK ps0\/∃x∈ps,u.length=n/\mkM R x u)->∀u,u∈aK ps10<->u.length=n/\mkM R ⟨d,t,ps⟩ u:=by
   intro ps10 ps0 q0 q u
   rw[q,q0,mkk]
   constructor
   ·rintro (⟨rfl,c,c2⟩|⟨x,hx,w1,w2⟩)
    ·exact ⟨c.symm,.inl ⟨rfl,c2⟩⟩
    ·exact ⟨w1,.inr ⟨x,hx,w2⟩⟩
   ·rintro ⟨w1,⟨rfl,c2⟩|⟨x,hx,w2⟩⟩
    ·exact .inl ⟨rfl,w1.symm,c2⟩
    ·exact .inr ⟨x,hx,w1,w2⟩
  have kids:∀h8:Hp,MkR r G h8 n0 f0 FT mb bk m eb em Gv lv rv xr xl sm tm tbl rks->∃A b2',ap Tryz.prog 70 rv (.int .i64 (k:Int))=some (.pointer (some ⟨b2',k,none⟩))/\h8.load ⟨b2',k,none⟩=some (.slice A ks.length ks.length)/\∀(j c:Nat),ks[j]? = some c->∃b,A=some ⟨b,0,none⟩/\h8.load ⟨b,j,none⟩=some (.int .i64 (c:Int)):=by
   intro h8 K8
   obtain ⟨b',b2',n',n2',kv,_,e1',e2',_,e4',_,_,hkv,hkid⟩:=K8.tab.get hk
   obtain ⟨Ak,eA,hsA,hh⟩:=hkid.len
   refine ⟨Ak,b2',?_,by rw[<-eA];exact hkv,hh⟩
   have:=pO (b:=b2') (o:=0) (n:=n2') (c:=n2') (i:=k) (by omega)
   rw[e2']
   rwa[Nat.zero_add] at this
  obtain ⟨A0,b20,ik2,hkv0,_⟩:=kids h K
  have hldk:∀h8:Hp,ExtS (Two sm tm) h h8->h8.load ⟨b20,k,none⟩=some (.slice A0 ks.length ks.length)/\∀(j c:Nat),ks[j]? = some c->∃b,A0=some ⟨b,0,none⟩/\h8.load ⟨b,j,none⟩=some (.int .i64 (c:Int)):=by
   intro h8 X8
   have K8:=K.keepS X8 (fun b c=>c) i1 i2
   obtain ⟨A8,b28,ik8,hkv8,hh8⟩:=kids h8 K8
   rw[ik2] at ik8
   injection ik8 with e
   injection e with e
   injection e with e
   injection e with e
   subst e
   have hrow:h8.load ⟨b20,k,none⟩=some (.slice A0 ks.length ks.length):=by
    obtain ⟨kvs,z1,z2,z3⟩:=K.tab.rest
    rcases z1 with ⟨_,z⟩|⟨rb,rf,rn,z,_,hrr,_⟩
    ·rw[z] at ik2;simp[ap] at ik2
    ·have hrr8:=(jQ (B:=fun _=>False) (F:=fun _=>False) X8 i1 i2).rows _ _ _ _ hrr (fun c=>c) (fun c=>c)
     have:rb=b20:=by
      obtain ⟨b',b2',n',n2',kv,_,e1',e2',_,e4',_,_,hkv,hkid⟩:=K.tab.get hk
      have z5:=pO (b:=rb) (o:=0) (n:=rn) (c:=rn) (i:=k) (by rw[z] at e2';injection e2' with _ q;omega)
      rw[<-z,ik2] at z5
      injection z5 with z5
      injection z5 with z5
      injection z5 with z5
      injection z5 with z5
      exact z5.symm
     subst this
     rw[bV hrr] at hkv0
     rw[bV hrr8]
     exact hkv0
   rw[hrow] at hkv8
   injection hkv8 with e
   injection e with e
   subst e
   exact ⟨hrow,hh8⟩
  have m2:∀h8:Hp,MkR r G h8 n0 f0 FT mb bk m eb em Gv lv rv xr xl sm tm tbl rks->h8.load ⟨mb,2,none⟩=some rv:=fun h8 K8=>by rw[aa K8.own];rfl
  by_cases c0:n=0/\d.data.toList=[111,112,116]
  ·have cn:decide ((n:Int)=0)=true:=dcT (by have:=c0.1;omega)
   have c6:decide (d.data.toList=[111,112,116])=true:=dcT c0.2
   obtain ⟨B2,F2,L2,K2,W2⟩:=LB.single (u:=.slice none 0 0) (t:=[]) hb (.inl ⟨rfl,rfl⟩)
   generalize hhC:hB.newH (.cells ⟨[.slice none 0 0],34,0,0,false⟩)=hC at *
   obtain ⟨_,h8,hs8,rfl,X8⟩:=fg (L2.mkr K i1 i2) (L2.bn hb) hk (fun e=>absurd e nm) (fun e e2=>absurd e2 (nsq e))
   have L8:=L2.ext X8
   unfold fz at hs8
   rw[if_neg nm,if_neg (fun c=>nsq c.1 c.2)] at hs8
   have kE8:KeepE B F hB h8:=K2.step W2 ((bT X8).wide (fun _ _ c=>c.elim) (fun _ c=>c.elim))
   have wW8:WideC hB B F B2 F2:=W2
   obtain ⟨hkv8,_⟩:=hldk h8 L8.x
   simp -dsimp only[go_sem,g0,g1,g2,c1,c2,c3,c4,c6,cn,l0,ai,hbs2,hhC]
   refine ⟨_,h8,hs8,?_⟩
   simp -dsimp only[go_sem,g0,g1,g2,m2 h8 (L8.mkr K i1 i2),ik2,hkv8]
   refine ki (l:=ps) (W:=fun u=>u.length=n/\mkM R ⟨d,t,ps⟩ u) hn9 hkl hk4 hb K i1 i2 (fun u c=>c.1) hcap L8 (by simp) (fun u c=>by
    simp[aK] at c
    subst c
    exact ⟨c0.1.symm,(mkk _).2 (.inl ⟨rfl,c0.2⟩)⟩) hka hla (fun x hx u w1 w2=>⟨w1,(mkk u).2 (.inr ⟨x,hx,w2⟩)⟩) (fun h' X'=>(hldk h' X').2) (by simp -dsimp only[go_sem,hn]) (by simp -dsimp only[go_sem,g0]) (by simp -dsimp only[go_sem,g2]) (by simp -dsimp only[go_sem];try rfl) (by simp -dsimp only[go_sem]) (by simp -dsimp only[go_sem]) (by simp -dsimp only[go_sem]) (fun a1 h10 B10 F10 v10 ps10 hn1 L10 len10 W10 iff10 K10 Wi10 X10 p11 => ?_)
   obtain ⟨y0,y2,y7⟩:=X10
   obtain ⟨w,h9,q1,q2,q3,⟨Aw,cw,nw,rfl,hspw⟩,o,q4,q5⟩:=fin h10 B10 F10 v10 v10 ps10 ps10 L10 L10.a.toL L10.p len10 (mem2 ps10 _ (fun u=>by simp[aK,c0.1,c0.2]) iff10) (kE8.step wW8 K10) (wW8.trans Wi10 kE8.next kE8.nfam)
   simp -dsimp only[go_sem,y0,y7,g0,p11]
   refine ⟨_,h9,q1,?_⟩
   refine aD (n:=200) [[],[0],[0,1],[0,1,2],[],[],[0,1,2,3,4,5]] (by simp -dsimp only[go_sem,hn1]) (ao (by kernel_rfl)) ?_
   simp -dsimp only[go_sem,y0,y7,g0,p11,b5,q2,q3,q4,hr,ab hspw]
   exact q5
  by_cases c7:n=0
  ·have cn:decide ((n:Int)=0)=true:=dcT (by omega)
   have c6:decide (d.data.toList=[111,112,116])=false:=dcF (fun c=>c0 ⟨c7,c⟩)
   obtain ⟨_,h8,hs8,rfl,X8⟩:=fg (LB.mkr K i1 i2) (LB.bn hb) hk (fun e=>absurd e nm) (fun e e2=>absurd e2 (nsq e))
   have L8:=LB.ext X8
   unfold fz at hs8
   rw[if_neg nm,if_neg (fun c=>nsq c.1 c.2)] at hs8
   have kE8:KeepE B F hB h8:=(bT X8).wide (fun _ _ c=>c.elim) (fun _ c=>c.elim)
   have wW8:WideC hB B F B F:=WideC.refl _ _ _
   obtain ⟨hkv8,_⟩:=hldk h8 L8.x
   simp -dsimp only[go_sem,g0,g1,g2,c1,c2,c3,c4,c6,cn,l0,ai]
   refine ⟨_,h8,hs8,?_⟩
   simp -dsimp only[go_sem,g0,g1,g2,m2 h8 (L8.mkr K i1 i2),ik2,hkv8]
   refine ki (l:=ps) (W:=fun u=>u.length=n/\mkM R ⟨d,t,ps⟩ u) hn9 hkl hk4 hb K i1 i2 (fun u c=>c.1) hcap L8 (by simp) (fun u c=>by simp[aK] at c) hka hla (fun x hx u w1 w2=>⟨w1,(mkk u).2 (.inr ⟨x,hx,w2⟩)⟩) (fun h' X'=>(hldk h' X').2) (by simp -dsimp only[go_sem,hn]) (by simp -dsimp only[go_sem,g0]) (by simp -dsimp only[go_sem,g2]) (by simp -dsimp only[go_sem];try rfl) (by simp -dsimp only[go_sem]) (by simp -dsimp only[go_sem]) (by simp -dsimp only[go_sem]) (fun a1 h10 B10 F10 v10 ps10 hn1 L10 len10 W10 iff10 K10 Wi10 X10 p11 => ?_)
   obtain ⟨y0,y2,y7⟩:=X10
   obtain ⟨w,h9,q1,q2,q3,⟨Aw,cw,nw,rfl,hspw⟩,o,q4,q5⟩:=fin h10 B10 F10 v10 v10 ps10 ps10 L10 L10.a.toL L10.p len10 (mem2 ps10 _ (fun u=>by simp[aK];exact fun _ q1 q2=>c0 ⟨q1,q2⟩) iff10) (kE8.step wW8 K10) (wW8.trans Wi10 kE8.next kE8.nfam)
   simp -dsimp only[go_sem,y0,y7,g0,p11]
   refine ⟨_,h9,q1,?_⟩
   refine aD (n:=200) [[],[0],[0,1],[0,1,2],[],[],[0,1,2,3,4,5]] (by simp -dsimp only[go_sem,hn1]) (ao (by kernel_rfl)) ?_
   simp -dsimp only[go_sem,y0,y7,g0,p11,b5,q2,q3,q4,hr,ab hspw]
   exact q5
  ·have cn:decide ((n:Int)=0)=false:=dcF (by omega)
   obtain ⟨_,h8,hs8,rfl,X8⟩:=fg (LB.mkr K i1 i2) (LB.bn hb) hk (fun e=>absurd e nm) (fun e e2=>absurd e2 (nsq e))
   have L8:=LB.ext X8
   unfold fz at hs8
   rw[if_neg nm,if_neg (fun c=>nsq c.1 c.2)] at hs8
   have kE8:KeepE B F hB h8:=(bT X8).wide (fun _ _ c=>c.elim) (fun _ c=>c.elim)
   have wW8:WideC hB B F B F:=WideC.refl _ _ _
   obtain ⟨hkv8,_⟩:=hldk h8 L8.x
   simp -dsimp only[go_sem,g0,g1,g2,c1,c2,c3,c4,cn,l0,ai]
   refine ⟨_,h8,hs8,?_⟩
   simp -dsimp only[go_sem,g0,g1,g2,m2 h8 (L8.mkr K i1 i2),ik2,hkv8]
   refine ki (l:=ps) (W:=fun u=>u.length=n/\mkM R ⟨d,t,ps⟩ u) hn9 hkl hk4 hb K i1 i2 (fun u c=>c.1) hcap L8 (by simp) (fun u c=>by simp[aK] at c) hka hla (fun x hx u w1 w2=>⟨w1,(mkk u).2 (.inr ⟨x,hx,w2⟩)⟩) (fun h' X'=>(hldk h' X').2) (by simp -dsimp only[go_sem,hn]) (by simp -dsimp only[go_sem,g0]) (by simp -dsimp only[go_sem,g2]) (by simp -dsimp only[go_sem];try rfl) (by simp -dsimp only[go_sem]) (by simp -dsimp only[go_sem]) (by simp -dsimp only[go_sem]) (fun a1 h10 B10 F10 v10 ps10 hn1 L10 len10 W10 iff10 K10 Wi10 X10 p11 => ?_)
   obtain ⟨y0,y2,y7⟩:=X10
   obtain ⟨w,h9,q1,q2,q3,⟨Aw,cw,nw,rfl,hspw⟩,o,q4,q5⟩:=fin h10 B10 F10 v10 v10 ps10 ps10 L10 L10.a.toL L10.p len10 (mem2 ps10 _ (fun u=>by simp[aK];exact fun _ q1 q2=>c0 ⟨q1,q2⟩) iff10) (kE8.step wW8 K10) (wW8.trans Wi10 kE8.next kE8.nfam)
   simp -dsimp only[go_sem,y0,y7,g0,p11]
   refine ⟨_,h9,q1,?_⟩
   refine aD (n:=200) [[],[0],[0,1],[0,1,2],[],[],[0,1,2,3,4,5]] (by simp -dsimp only[go_sem,hn1]) (ao (by kernel_rfl)) ?_
   simp -dsimp only[go_sem,y0,y7,g0,p11,b5,q2,q3,q4,hr,ab hspw]
   exact q5
end
section
variable {r:Ro} {n0 f0 mb bk m eb sm tm:Nat} {FT:Nat->Nat} {Gv lv rv xr xl:Value} {tbl:Tbl} {G:List ar} {em:List Bool} {rks:List Nat} {S:Nat->Prop} {rk:Nat->Nat} {most cap:Nat} {made:List (List Tx)} {R:ByteArray->Tx->Prop}
def CapP (R:ByteArray->Tx->Prop) (p:ad) (n:Nat):Prop:=∀Q:List Tx,Q.Nodup->(∀u∈Q,u.length=n/\mkM R p u)->Q.length<=2000
theorem CapP.left {p x y:ad} {n j:Nat} (h:CapP R p n) (hj:j<=n) (hy:Aq R y (n - j)) (hxy:∀u v:Tx,u.length=j->mkM R x u->v.length=n - j->mkM R y v->mkM R p (u++v)):CapP R x j:=by
 obtain ⟨v0,q1,q2⟩:=hy
 intro Q hQ hall
 have:=h _ (oZ v0 hQ) (fun u hu=>by
  obtain ⟨w,hw,rfl⟩:=List.mem_map.1 hu
  have q:=hall w hw
  exact ⟨by rw[List.length_append];omega,hxy w v0 q.1 q.2 q1 q2⟩)
 rwa[List.length_map] at this
theorem CapP.right {p x y:ad} {n j:Nat} (h:CapP R p n) (hj:j<=n) (hx:Aq R x j) (hxy:∀u v:Tx,u.length=j->mkM R x u->v.length=n - j->mkM R y v->mkM R p (u++v)):CapP R y (n - j):=by
 obtain ⟨u0,q1,q2⟩:=hx
 intro Q hQ hall
 have:=h _ (qm u0 hQ) (fun u hu=>by
  obtain ⟨w,hw,rfl⟩:=List.mem_map.1 hu
  have q:=hall w hw
  exact ⟨by rw[List.length_append];omega,hxy u0 w q1 q2 q.1 q.2⟩)
 rwa[List.length_map] at this
theorem CapP.sub {p x:ad} {n:Nat} (h:CapP R p n) (hx:∀u:Tx,u.length=n->mkM R x u->mkM R p u):CapP R x n:=fun Q hQ hall=>h Q hQ (fun u hu=>⟨(hall u hu).1,hx u (hall u hu).1 (hall u hu).2⟩)
theorem C3 {p x:ad} {u:Tx} (hp:oY p) (hx:x∈p.l) (h:mkM R x u):mkM R p u:=by
 obtain ⟨d,t,l⟩:=p
 rcases hp with hd|hd|⟨hd,hl⟩
 ·exact (qk hd u).2 ⟨x,hx,h⟩
 ·exact (lS hd u).2 (.inr ⟨x,hx,h⟩)
 ·obtain ⟨z,e⟩:∃z,l=[z]:=List.length_eq_one_iff.1 hl
  subst e
  have hx:x∈[z]:=hx
  rw[List.mem_singleton] at hx
  subst hx
  exact (ng hd u).2 h
theorem BA (Kx:Mkx G most cap made em S rk) (hnG:∀(i:Nat) (x:ar),G[i]? = some x->ay (nms G) x.body=true) (hmost:most<=1000)
  (hnum:∀(i:Nat) (x:ar),G[i]? = some x->∃k,rks[i]? = some k/\Num tbl k x.body) (hk4:∀(k:Nat) (p:ad) (ks:List Nat),tbl[k]? = some (p,ks)->ks.length<=400) :
  ∀n,n<=most->∀(q k:Nat) (p:ad),Num tbl k p->plP S (ae (nms G)) p->ay (nms G) p=true->(∀t,stM (emf (nms G) em) p t->rk (ae (nms G) t)<q)->CapP (RM (nms G) made) p n ->
   gA (RM (nms G) made) r G n0 f0 FT mb bk m eb em Gv lv rv xr xl sm tm tbl rks n k p:=by
 have anyA:∀j,j<=most->∀(k:Nat) (p:ad),Num tbl k p->plP S (ae (nms G)) p->ay (nms G) p=true->gm (RM (nms G) made) r G n0 f0 FT mb bk m eb em Gv lv rv xr xl sm tm tbl rks j k p:=fun j hj k p hN hp hr =>
  Cs Kx hnG (by omega) hnum j hj (G.length+1) k p hN hp hr (fun t _=>by have:=Kx.rkn (ae (nms G) t);omega)
 intro n
 induction n using Nat.strongRecOn with
 | _ n ihn =>
 intro hnm q
 have less:∀j,j<n->∀(k:Nat) (p:ad),Num tbl k p->plP S (ae (nms G)) p->ay (nms G) p=true->CapP (RM (nms G) made) p j->gA (RM (nms G) made) r G n0 f0 FT mb bk m eb em Gv lv rv xr xl sm tm tbl rks j k p:=fun j hj k p hN hp hr hc =>
  ihn j hj (by omega) (G.length+1) k p hN hp hr (fun t _=>by have:=Kx.rkn (ae (nms G) t);omega) hc
 induction q using Nat.strongRecOn with
 | _ q ihq =>
 intro k p hN
 induction hN with
 | @two k d t x y l a b hd hget ha hb iha ihb =>
   intro hp hr hst hcap
   have hpl:=li hp
   have hrl:=iv hr
   obtain ⟨hrx,hry⟩:=fm hrl
   have hpx:plP S (ae (nms G)) x:=by rw[plL] at hpl;exact hpl.1
   have hpy:plL S (ae (nms G)) (y::l):=by rw[plL] at hpl;exact hpl.2
   have sx:∀s,stM (emf (nms G) em) x s->stM (emf (nms G) em) ⟨d,t,x::y::l⟩ s:=fun s hs=>by
    rw[stM,stL]
    exact .inr (.inl hs)
   have sy:cD (emf (nms G) em) x=true->∀s,stM (emf (nms G) em) ⟨dx,noT,y::l⟩ s->stM (emf (nms G) em) ⟨d,t,x::y::l⟩ s:=fun hm s hs=>by
    rw[stM] at hs
    rw[stM,stL,dcT hd]
    rcases hs with ⟨c,_⟩|hs
    ·exact absurd c (by decide)
    ·rw[show decide (dx.data.toList=[115,101,113])=true from rfl] at hs
     exact .inr (.inr ⟨by rw[hm];rfl,hs⟩)
   have hxy:∀u v:Tx,mkM (RM (nms G) made) x u->mkM (RM (nms G) made) ⟨dx,noT,y::l⟩ v->mkM (RM (nms G) made) ⟨d,t,x::y::l⟩ (u++v):=fun u v h1 h2=>(lR hd _).2 ⟨u,v,rfl,h1,h2⟩
   refine qo (by omega) (.two hd hget ha hb) hget (hk4 _ _ _ hget) (.inr (.inr (.inr (.inl ⟨hd,x,y,l,rfl⟩)))) hcap (fun c=>by rw[hd] at c;exact absurd c (by decide)) (fun _ x' y' l' e => ?_) (fun c=>by rw[hd] at c;exact absurd c (by decide)) (fun c => ?_)
   ·simp only[List.cons.injEq] at e
    obtain ⟨rfl,rfl,rfl⟩:=e
    refine ⟨a,b,rfl,fun j hj=>anyA j (by omega) a x ha hpx hrx,fun j hj _=>anyA (n - j) (by omega) b _ hb (lh hpy) (gf hry),fun j hj aq1 aq2 => ?_,fun j hj aq1 aq2 => ?_⟩
    ·have hc:CapP (RM (nms G) made) x j:=CapP.left hcap hj aq2 (fun u v _ h1 _ h2=>hxy u v h1 h2)
     by_cases e:j=n
     ·subst e
      exact iha hpx hrx (fun s hs=>hst s (sx s hs)) hc
     ·exact less j (by omega) a x ha hpx hrx hc
    ·have hc:CapP (RM (nms G) made) ⟨dx,noT,y::l⟩ (n - j):=CapP.right hcap hj aq1 (fun u v _ h1 _ h2=>hxy u v h1 h2)
     by_cases e:j=0
     ·subst e
      obtain ⟨w,hw,hm⟩:=aq1
      rw[List.length_eq_zero_iff.1 hw] at hm
      have hmb:=jz x hpx (fun s _ hS hR=>Kx.emOk s hS hR) hm
      exact ihb (lh hpy) (gf hry) (fun s hs=>hst s (sy hmb s hs)) hc
     ·exact less (n - j) (by omega) b _ hb (lh hpy) (gf hry) hc
   ·rcases c with c|c|c
    ·rw[show d.data.toList=_ from c] at hd;exact absurd hd (by decide)
    ·rw[show d.data.toList=_ from c] at hd;exact absurd hd (by decide)
    ·exact absurd c.2 (by simp)
 | @kids k d t l ks hd hget hl hk ih =>
   intro hp hr hst hcap
   have hpl:=li hp
   have hrl:=iv hr
   have hkd:=zr hr hp
   refine qo (by omega) (.kids hd hget hl hk) hget (hk4 _ _ _ hget) hkd hcap (fun c => ?_) (fun c x y l' e=>absurd ⟨c,by rw[e];simp⟩ hd) (fun c x e => ?_) (fun c=>⟨hl,fun i c' x e1 e2 => ?_,fun i c' x e1 e2 _ => ?_⟩)
   ·have hS:S (ae (nms G) t):=by
     rw[plP] at hp
     exact hp.2.1 c
    have hlt:=Kx.lt _ hS
    obtain ⟨k',w1,w2⟩:=hnum _ _ (gEl hlt)
    have hbd:=jC (gEl hlt)
    have hpb:=Kx.pl _ hS
    have hiff:∀u:Tx,u.length=n->(mkM (RM (nms G) made) ⟨d,t,l⟩ u<->mkM (RM (nms G) made) (aZ G (ae (nms G) t)) u):=fun u hu=>by
     rw[jB c,Kx.iff hS]
     exact ⟨fun q=>q.2,fun q=>⟨by omega,q⟩⟩
    exact ⟨k',aZ G (ae (nms G) t),w1,ihq (rk (ae (nms G) t)) (hst t (by rw[stM];exact .inl ⟨c,rfl⟩)) k' _ (by rw[hbd];exact w2) hpb (fa hnG hlt) (fun s hs=>Kx.rank _ s hS (zp _ s hpb hs) hs) (CapP.sub hcap (fun u hu h=>(hiff u hu).2 h)),hiff⟩
   ·subst e
    have ns:¬d.data.toList=[115,101,113]:=by rw[c];decide
    obtain ⟨ka,rfl⟩:∃ka,ks=[ka]:=List.length_eq_one_iff.1 hl
    have hpx:plP S (ae (nms G)) x:=iu _ _ (.head _) hpl
    have hrx:=gd hrl x (.head _)
    have hxy:∀j,0<j->∀u v:Tx,u.length=j->mkM (RM (nms G) made) x u->mkM (RM (nms G) made) ⟨d,t,[x]⟩ v->mkM (RM (nms G) made) ⟨d,t,[x]⟩ (u++v):=fun j h0 u v hu h1 h2=>(eL c _).2 (.inr ⟨u,v,List.length_pos_iff.1 (by omega),rfl,h1,h2⟩)
    refine ⟨ka,rfl,fun j hj=>anyA j (by omega) ka x (hk 0 ka x rfl rfl) hpx hrx,fun j hj _=>anyA (n - j) (by omega) k _ (.kids hd hget hl hk) hp hr,fun j hj h0 aq1 aq2 => ?_,fun j hj h0 aq1 aq2 => ?_⟩
    ·have hc:CapP (RM (nms G) made) x j:=CapP.left hcap hj aq2 (fun u v hu h1 _ h2=>hxy j h0 u v hu h1 h2)
     by_cases e:j=n
     ·subst e
      exact ih 0 ka x rfl rfl hpx hrx (fun s hs=>hst s (nh (.head _) (.inl ns) hs)) hc
     ·exact less j (by omega) ka x (hk 0 ka x rfl rfl) hpx hrx hc
    ·have hc:CapP (RM (nms G) made) ⟨d,t,[x]⟩ (n - j):=CapP.right hcap hj aq1 (fun u v hu h1 _ h2=>hxy j h0 u v hu h1 h2)
     exact less (n - j) (by omega) k _ (.kids hd hget hl hk) hp hr hc
   ·have hx:=mOg e2
    exact anyA n hnm c' x (hk i c' x e1 e2) (iu _ _ hx hpl) (gd hrl x hx)
   ·have hx:=mOg e2
    refine ih i c' x e1 e2 (iu _ _ hx hpl) (gd hrl x hx) (fun s hs=>hst s (nh hx ?_ hs)) (CapP.sub hcap (fun u _ h=>C3 c hx h))
    rcases c with c|c|c
    ·left;rw[show d.data.toList=_ from c];decide
    ·left;rw[show d.data.toList=_ from c];decide
    ·right
     obtain ⟨z,e⟩:=List.length_eq_one_iff.1 c.2
     have e:l=[z]:=e
     subst e
     rw[List.mem_singleton] at hx
     rw[hx]
end
section
variable {r:Ro} {G:List ar} {Gv:Option Addr} {gc tb mb bk m eb:Nat} {em:List Bool} {lv rv x3 x4 x5 x6 x7:Value}
def uL (r:Ro) (G:List ar) (tb mb bk m eb:Nat) (em:List Bool) (Gv:Option Addr) (gc:Nat) (lv rv x3 x4 x5 x6 x7:Value) (bound:Nat) (p:ad):Prop:=∀(h:Hp) (cs:List Value) (s:List Bool),h.rom=r->h.base<=h.next->RoPart r p cs->ay (nms G) p=true ->
 h.own tb 4 (s.map .bool)->s.length=G.length->cf s<=bound->h.own mb 73 (cL bk lv rv x3 x4 x5 x6 x7)->Book h bk m eb (.slice Gv G.length gc) (nms G) em ->
 ∃v h1,Snd Tryz.prog 23 [.pointer (some ⟨mb,0,none⟩),.agg cs.toArray,.slice (some ⟨tb,0,none⟩) G.length G.length] h v h1/\ExtS (aR tb) h h1/\∃o:Bool×List Bool,RunsQ G (.part p) s o/\v=.bool o.1/\h1.own tb 4 (o.2.map .bool)/\o.2.length=G.length/\cf o.2<=cf s
theorem tc (hmt:mb≠tb) (hbt:bk≠tb) (hmt2:m≠tb) (het:eb≠tb) {bound:Nat} {l:List ad} {d t:ByteArray} {Av:Option Addr} {c b o:Nat} {css:Nat->List Value} (ih:∀(i:Nat) (p:ad),l[i]? = some p->uL r G tb mb bk m eb em Gv gc lv rv x3 x4 x5 x6 x7 bound p) (hnk:∀(i:Nat) (p:ad),l[i]? = some p->ay (nms G) p=true)
  (hlb:l.length<=9223372036854775807) (hA:l≠[]->Av=some ⟨b,o,none⟩) (hat:∀(i:Nat) (p:ad),l[i]? = some p->fS r b (o+i*3) (css i)) (hk:∀(i:Nat) (p:ad),l[i]? = some p->RoPart r p (css i))
  {a:Ev.A} {h2:Hp} {Q:Ex->Ev.A->Hp->Prop} (hn:a.n=62) (hrom2:h2.rom=r) (hb2:h2.base<=h2.next) {s:List Bool} (hS:h2.own tb 4 (s.map .bool)) (hsl:s.length=G.length) (hbd:cf s<=bound)
  (hM:h2.own mb 73 (cL bk lv rv x3 x4 x5 x6 x7)) (hBk:Book h2 bk m eb (.slice Gv G.length gc) (nms G) em)
  (g0:a.get 0=.pointer (some ⟨mb,0,none⟩)) (g2:a.get 2=.slice (some ⟨tb,0,none⟩) G.length G.length) (g50:a.get 50=.slice Av l.length c) (g51:a.get 51=.int .i64 (l.length:Int)) (g52:a.get 52=.int .i64 0)
  (hq0:∀(a1:Ev.A) (h1:Hp) (s1:List Bool),a1.n=62->ExtS (aR tb) h2 h1->RunsQ G (.kids l) s (true,s1)->h1.own tb 4 (s1.map .bool)->s1.length=G.length->cf s1<=cf s->Q (.exit 1) a1 h1)
  (hq1:∀(a1:Ev.A) (h1:Hp) (s1:List Bool),a1.n=62->ExtS (aR tb) h2 h1->RunsQ G (.kids l) s (false,s1)->h1.own tb 4 (s1.map .bool)->s1.length=G.length->cf s1<=cf s->a1.get 6=.bool false->Q .ret a1 h1) :
  Th Tryz.prog (aw Tryz.f23 [1,1,0,1,0]) a h2 Q ⟨⟩ ⟨⟩:=by
 simp only[aw,nav,Tryz.f23]
 refine au (n:=62) (by kernel_rfl) (fun m' a' h'=>∃(i:Nat) (s1:List Bool),i<=l.length/\m'=l.length - i/\ExtS (aR tb) h2 h'/\h'.own tb 4 (s1.map .bool)/\s1.length=G.length/\cf s1<=cf s/\(∀o,RunsQ G (.kids (l.drop i)) s1 o->RunsQ G (.kids l) s o) /\
  a'.get 0=.pointer (some ⟨mb,0,none⟩)/\a'.get 2=.slice (some ⟨tb,0,none⟩) G.length G.length/\a'.get 50=.slice Av l.length c/\a'.get 51=.int .i64 (l.length:Int)/\a'.get 52=.int .i64 (i:Int)) ?_ l.length _ _ hn
  ⟨0,s,lZr _,rfl,(Ext.refl _).toS,hS,hsl,lRf _,fun o k=>by rw[List.drop_zero] at k;exact k,g0,g2,g50,g51,g52⟩
 rintro m' a' h' hn' ⟨i,s1,hi,rfl,hx,hS1,hl1,hc1,hst0,e0,e2,e50,e51,e52⟩
 have hrom':h'.rom=r:=bG hx hrom2
 have hb':h'.base<=h'.next:=de hx hb2
 by_cases hlt:i<l.length
 rotate_left
 ·have hi0:decide ((i:Int)<(l.length:Int))=false:=dcF (by omega)
  rw[List.drop_eq_nil_of_le (by omega)] at hst0
  simp -dsimp only[go_sem,e0,e2,e50,e51,e52,hi0]
  exact hq0 _ _ s1 (by simp -dsimp only[go_sem,hn']) hx (hst0 _ j9) hS1 hl1 hc1
 have hpi:l[i]? = some l[i]:=gEl hlt
 have hi1:decide ((i:Int)<(l.length:Int))=true:=dcT (Int.ofNat_lt.2 hlt)
 obtain ⟨Av1,c1',hcs⟩:=(hk i _ hpi).shape
 have hat':=hat i _ hpi
 have hkid:=hk i _ hpi
 rw[hcs] at hat' hkid
 have hAv:=hA (aO hlt)
 subst hAv
 rw[List.drop_eq_getElem_cons hlt] at hst0
 have hx0:=Ext.new h' (ak.cells ⟨[.string ⟨#[]⟩,.string ⟨#[]⟩,.slice none 0 0],48,0,0,false⟩)
 have hw0:=an hb' 48 [.string ⟨#[]⟩,.string ⟨#[]⟩,.slice none 0 0]
 have hst:=aE (o:=0) (vs:=[.string (l[i]).d,.string (l[i]).t,.slice Av1 (l[i]).l.length c1']) (c1:=[.string (l[i]).d,.string (l[i]).t,.slice Av1 (l[i]).l.length c1']) hw0 rfl rfl (by simp)
 have hx1:=hx0.put (b:=h'.next) (lRf _) (ak.cells ⟨[.string (l[i]).d,.string (l[i]).t,.slice Av1 (l[i]).l.length c1'],48,0,0,false⟩)
 have hP1:=av hw0 [.string (l[i]).d,.string (l[i]).t,.slice Av1 (l[i]).l.length c1']
 generalize hhA:(h'.newH (ak.cells ⟨[.string ⟨#[]⟩,.string ⟨#[]⟩,.slice none 0 0],48,0,0,false⟩)).put h'.next (ak.cells ⟨[.string (l[i]).d,.string (l[i]).t,.slice Av1 (l[i]).l.length c1'],48,0,0,false⟩)=hA1 at hst hx1 hP1
 have hxA:=hx.trans (hx1.toS (S:=aR tb))
 obtain ⟨_,h6,hs6,hx6,⟨ob,s2⟩,hR6,rfl,hS6,hl6,hc6⟩:=ih i _ hpi hA1 _ s1 (bG hxA hrom2) (de hxA hb2) hkid (hnk i _ hpi) (aj hx1 hS1) hl1 (lTr hc1 hbd) (aJ hxA hM hmt) (hBk.extS hxA hbt hmt2 het)
 have hx7:=hxA.trans hx6
 simp -dsimp only[go_sem,e0,e2,e50,e51,e52,hi1,eR hlt,az (n:=3) hrom' hat' rfl,hst,af hP1]
 refine ⟨_,h6,hs6,?_⟩
 cases ob with
 | false =>
   simp -dsimp only[go_sem,Bool.not_false]
   exact hq1 _ _ s2 (by simp -dsimp only[go_sem,hn']) hx7 (hst0 _ (rz hR6)) hS6 hl6 (lTr hc6 hc1) (by simp -dsimp only[go_sem])
 | true =>
   simp -dsimp only[go_sem,Bool.not_true,e0,e2,e50,e51,e52,ah hlt hlb]
   exact ⟨l.length - (i+1),by omega,i+1,s2,hlt,rfl,hx7,hS6,hl6,lTr hc6 hc1,fun o k=>hst0 _ (rA hR6 k),rfl⟩
theorem zA (hmt:mb≠tb) (hbt:bk≠tb) (hmt2:m≠tb) (het:eb≠tb) {gb go:Nat} {gcss:Nat->List Value} (R:bd r G Gv gc gb go gcss) (hnG:∀(i:Nat) (x:ar),G[i]? = some x->ay (nms G) x.body=true):∀(bound n:Nat) (p:ad),SizeOf.sizeOf p<n->uL r G tb mb bk m eb em Gv gc lv rv x3 x4 x5 x6 x7 bound p:=by
 have hGl:(nms G).length=G.length:=by simp[nms]
 intro bound
 induction bound using Nat.strongRecOn with
 | _ bound ihB =>
 intro n
 induction n with
 | zero=>exact fun p hp=>absurd hp (lNz _)
 | succ n ihn =>
 rintro ⟨d,t,l⟩ hn h cs s hrom hb hp hrp hS hsl hbd hM hBk
 have ih:∀(i:Nat) (p:ad),l[i]? = some p->uL r G tb mb bk m eb em Gv gc lv rv x3 x4 x5 x6 x7 bound p:=fun i p hp=>ihn p (by
  have:=List.sizeOf_lt_of_mem (mOg hp)
  simp only[ad.mk.sizeOf_spec] at hn
  omega)
 rw[ay,Bool.and_eq_true] at hrp
 obtain ⟨hrl,hko⟩:=hrp
 have hnk:∀(i:Nat) (p:ad),l[i]? = some p->ay (nms G) p=true:=ec hrl
 cases hp with
 | mk _ _ _ Av c b o css hc hlb hA hat hk hs =>
 refine aL wf Tryz.func23 rfl rfl (n:=62) rfl (by kernel_rfl) rfl ?_
 intro a hn hg
 have hr:Tryz.f23.results.toList=[.tmp 6]:=rfl
 have g0:=hg 0
 have g1:=hg 1
 have g2:=hg 2
 clear hg
 simp only[gC0,gC1] at g0 g1 g2
 have hP:=an hb 48 [.string d,.string t,.slice Av l.length c]
 have hx0:=Ext.new h (ak.cells ⟨[.string d,.string t,.slice Av l.length c],48,0,0,false⟩)
 simp -dsimp only[go_sem,g0,g1,g2]
 generalize h.newH (ak.cells ⟨[.string d,.string t,.slice Av l.length c],48,0,0,false⟩)=h2 at hP hx0 ⊢
 have hb2:h2.base<=h2.next:=by rw[hx0.base];exact lTr hb hx0.next
 have hrom2:h2.rom=r:=hx0.rom.trans hrom
 have hS2:=aj hx0 hS
 have hM2:=aj hx0 hM
 have hBk2:=hBk.ext hx0
 have htn:tb<h.next:=hS.2.1
 have hpt:h.next≠tb:=by omega
 have hxS:ExtS (aR tb) h h2:=hx0.toS
 simp -dsimp only[go_sem,aa hP]
 by_cases c1:d.data.toList=[97,110,121]
 ·have k1:decide (d.data.toList=[97,110,121])=true:=dcT c1
  simp -dsimp only[go_sem,k1,hr]
  exact ⟨hxS,(false,s),oD (.inl c1),rfl,hS2,hsl,lRf _⟩
 have k1:decide (d.data.toList=[97,110,121])=false:=dcF c1
 by_cases c2:d.data.toList=[110,111,116]
 ·have k2:decide (d.data.toList=[110,111,116])=true:=dcT c2
  simp -dsimp only[go_sem,aa hP,k1,k2,hr]
  exact ⟨hxS,(false,s),oD (.inr c2),rfl,hS2,hsl,lRf _⟩
 have k2:decide (d.data.toList=[110,111,116])=false:=dcF c2
 have cb:¬(d.data.toList=[97,110,121]\/d.data.toList=[110,111,116]):=fun c=>c.elim c1 c2
 by_cases c3:d.data.toList=[114,117,108,101]
 ·have k3:decide (d.data.toList=[114,117,108,101])=true:=dcT c3
  have hidx:ae (nms G) t<(nms G).length:=fN hko c3
  have hidG:ae (nms G) t<G.length:=by rw[<-hGl];exact hidx
  have hids:ae (nms G) t<s.length:=by rw[hsl];exact hidG
  have hget:(s.map Value.bool)[ae (nms G) t]? = some (.bool (s.getD (ae (nms G) t) false)):=by
   simp only[List.getElem?_map,List.getD_eq_getElem?_getD,gEl hids,Option.map_some,Option.getD_some]
  have m0:∀h':Hp,h'.own mb 73 (cL bk lv rv x3 x4 x5 x6 x7)->h'.load ⟨mb,0,none⟩=some (.pointer (some ⟨bk,0,none⟩)):=fun h' k=>by rw[aa k];rfl
  have mk1:h2.load ⟨bk,1,none⟩=some (.map (some m)):=by rw[aa hBk2.own];rfl
  have lkb:=hBk2.lookup hidx false
  rw[if_neg (by decide)] at lkb
  simp -dsimp only[go_sem,g0,g2,aa hP,k1,k2,k3]
  refine aD (n:=62) [[],[0],[0,1],[0,1,2],[0,1,2,3],[0,1,2,3,4],[0,1,2,3,4,5],[],[7],[0,1,2,3,4,5,6,7,8],[0,1,2,3,4,5,6,7,8,9]] (by simp -dsimp only[go_sem,hn]) (ao (by kernel_rfl)) ?_
  cases hsn:s.getD (ae (nms G) t) false with
  | true =>
    rw[hsn] at hget
    simp -dsimp only[go_sem,g0,g2,m0 h2 hM2,mk1,lkb,aa hP,bM hidG,aa hS2,hget,hr]
    exact ⟨hxS,(true,s),ry cb c3 hsn,rfl,hS2,hsl,lRf _⟩
  | false =>
    rw[hsn] at hget
    have hlt:=gN hsn hids
    have hsto:=aE hS2 (o:=ae (nms G) t) (vs:=[.bool true]) rfl (dP hids) (by simp)
    have hx2:=(hx0.toS (S:=aR tb)).put (b:=tb) (.inr rfl) (.cells ⟨(s.set (ae (nms G) t) true).map .bool,4,0,0,false⟩)
    have hxp:=(Ext.refl h2).toS.put (S:=aR tb) (b:=tb) (.inr rfl) (.cells ⟨(s.set (ae (nms G) t) true).map .bool,4,0,0,false⟩)
    have hpi:G[ae (nms G) t]? = some G[ae (nms G) t]:=gEl hidG
    obtain ⟨Av1,c1',hcs⟩:=(R.hk _ _ hpi).shape
    have hat':=R.hat _ _ hpi
    have hkid:=R.hk _ _ hpi
    rw[hcs] at hat' hkid
    have hat2:=dY hat'
    have hAv:=R.hA (aO hidG)
    subst hAv
    have hbo:eS G t=G[ae (nms G) t].body:=by
     unfold eS
     rw[hpi]
    have hrom6:=bG hx2 hrom
    have hb6:=de hx2 hb
    have hM6:=aJ hxp hM2 hmt
    have hBk6:=hBk2.extS hxp hbt hmt2 het
    obtain ⟨_,h7,hs7,hx7,⟨ob,s2⟩,hR7,rfl,hS7,hl7,hc7⟩:=ihB (cf (s.set (ae (nms G) t) true)) (lTl hlt hbd) _ G[ae (nms G) t].body (lSs _) _ _ (s.set (ae (nms G) t) true) hrom6 hb6 hkid (hnG _ _ hpi) (av hS2 _) (by simp[hsl]) (lRf _) hM6 hBk6
    have hx8:=hx2.trans hx7
    have mk0:∀h':Hp,Book h' bk m eb (.slice (some ⟨gb,go,none⟩) G.length gc) (nms G) em->h'.load ⟨bk,0,none⟩=some (.slice (some ⟨gb,go,none⟩) G.length gc):=fun h' k=>by rw[aa k.own];rfl
    simp -dsimp only[go_sem,g0,g2,m0 h2 hM2,mk1,lkb,aa hP,bM hidG,aa hS2,hget,hsto,m0 _ hM6,mk0 _ hBk6,eQ hidG,az (n:=3) hrom6 hat2 rfl]
    refine ⟨_,h7,hs7,?_⟩
    simp -dsimp only[go_sem,hr]
    exact ⟨hx8,(ob,s2),mZ cb c3 hsn (by rw[hbo];exact hR7),rfl,hS7,hl7,Nat.le_of_lt (Nat.lt_of_le_of_lt hc7 hlt)⟩
 have k3:decide (d.data.toList=[114,117,108,101])=false:=dcF c3
 simp -dsimp only[go_sem,g0,g2,aa hP,k1,k2,k3]
 refine tc hmt hbt hmt2 het (d:=d) (t:=t) (l:=l) (c:=c) ih hnk hlb hA hat hk (by simp -dsimp only[go_sem,hn]) hrom2 hb2 hS2 hsl hbd hM2 hBk2 (by simp -dsimp only[go_sem,g0]) (by simp -dsimp only[go_sem,g2]) (by simp -dsimp only[go_sem];try rfl) (by simp -dsimp only[go_sem];try rfl) (by simp -dsimp only[go_sem];try rfl) (fun a1 h1 s1 hn1 hx1 hR1 hS1 hl1 hc1 => ?_) (fun a1 h1 s1 hn1 hx1 hR1 hS1 hl1 hc1 q6 => ?_)
 ·simp -dsimp only[go_sem,hr]
  exact ⟨hxS.trans hx1,(true,s1),kR cb c3 hR1,rfl,hS1,hl1,hc1⟩
 ·simp -dsimp only[go_sem,q6,hr]
  exact ⟨hxS.trans hx1,(false,s1),kR cb c3 hR1,rfl,hS1,hl1,hc1⟩
end
section
variable {r:Ro} {G:List ar} {Gv:Option Addr} {gc tb mb bk m eb:Nat} {em pr:List Bool} {lv rv x3 x4 x5 x6 x7:Value}
mutual
def prB (nm:List ByteArray) (pr:List Bool):ad->Bool
 | ⟨d,t,l⟩=>if d.data.toList=[114,117,108,101] then pr.getD (ae nm t) false else if d.data.toList=[115,101,113] then i7 nm pr l else if d.data.toList=[111,114] then o4 nm pr l else true
def i7 (nm:List ByteArray) (pr:List Bool):List ad->Bool
 | []=>true
 | x::l=>prB nm pr x&&i7 nm pr l
def o4 (nm:List ByteArray) (pr:List Bool):List ad->Bool
 | []=>false
 | x::l=>prB nm pr x||o4 nm pr l
end
theorem fK (nm:List ByteArray) (pr:List Bool):∀l:List ad,i7 nm pr l=true<->∀q∈l,prB nm pr q=true
 | []=>by rw[i7];simp
 | x::l=>by rw[i7,Bool.and_eq_true,fK nm pr l];simp
theorem fL (nm:List ByteArray) (pr:List Bool):∀l:List ad,o4 nm pr l=true<->∃q∈l,prB nm pr q=true
 | []=>by rw[o4];simp
 | x::l=>by rw[o4,Bool.or_eq_true,fL nm pr l];simp
def vJ (r:Ro) (G:List ar) (tb mb bk m eb:Nat) (em:List Bool) (Gv:Option Addr) (gc:Nat) (lv rv x3 x4 x5 x6 x7:Value) (pr:List Bool) (p:ad):Prop:=∀(h:Hp) (cs:List Value),h.rom=r->h.base<=h.next->RoPart r p cs->ay (nms G) p=true ->
 h.own tb 4 (pr.map .bool)->pr.length=G.length->h.own mb 73 (cL bk lv rv x3 x4 x5 x6 x7)->Book h bk m eb (.slice Gv G.length gc) (nms G) em ->
 ∃v h1,Snd Tryz.prog 25 [.pointer (some ⟨mb,0,none⟩),.agg cs.toArray,.slice (some ⟨tb,0,none⟩) G.length G.length] h v h1/\v=.bool (prB (nms G) pr p)/\Ext h h1
theorem zB {l:List ad} {Av:Option Addr} {c b o:Nat} {css:Nat->List Value} (ih:∀(i:Nat) (p:ad),l[i]? = some p->vJ r G tb mb bk m eb em Gv gc lv rv x3 x4 x5 x6 x7 pr p) (hnk:∀(i:Nat) (p:ad),l[i]? = some p->ay (nms G) p=true)
  (hlb:l.length<=9223372036854775807) (hA:l≠[]->Av=some ⟨b,o,none⟩) (hat:∀(i:Nat) (p:ad),l[i]? = some p->fS r b (o+i*3) (css i)) (hk:∀(i:Nat) (p:ad),l[i]? = some p->RoPart r p (css i))
  {a:Ev.A} {h2:Hp} {Q:Ex->Ev.A->Hp->Prop} (hn:a.n=57) (hrom2:h2.rom=r) (hb2:h2.base<=h2.next) (hS:h2.own tb 4 (pr.map .bool)) (hsl:pr.length=G.length)
  (hM:h2.own mb 73 (cL bk lv rv x3 x4 x5 x6 x7)) (hBk:Book h2 bk m eb (.slice Gv G.length gc) (nms G) em)
  (g0:a.get 0=.pointer (some ⟨mb,0,none⟩)) (g2:a.get 2=.slice (some ⟨tb,0,none⟩) G.length G.length) (gs:a.get 31=.slice Av l.length c) (gl:a.get 32=.int .i64 (l.length:Int)) (gi:a.get 33=.int .i64 0)
  (hq0:∀(a1:Ev.A) (h1:Hp),a1.n=57->Ext h2 h1->(∀q∈l,prB (nms G) pr q=true)->Q (.exit 1) a1 h1)
  (hq1:∀(a1:Ev.A) (h1:Hp),a1.n=57->Ext h2 h1->(∃q∈l,prB (nms G) pr q=false)->a1.get 6=.bool false->Q .ret a1 h1) :
  Th Tryz.prog (aw Tryz.f25 [1,0,1,0,1,1,1,0,1,0]) a h2 Q ⟨⟩ ⟨⟩:=by
 simp only[aw,nav,Tryz.f25]
 refine au (n:=57) (by kernel_rfl) (fun m' a' h'=>∃(i:Nat),i<=l.length/\m'=l.length - i/\Ext h2 h'/\(∀q∈l.take i,prB (nms G) pr q=true) /\
  a'.get 0=.pointer (some ⟨mb,0,none⟩)/\a'.get 2=.slice (some ⟨tb,0,none⟩) G.length G.length/\a'.get 31=.slice Av l.length c/\a'.get 32=.int .i64 (l.length:Int)/\a'.get 33=.int .i64 (i:Int)) ?_ l.length _ _ hn
  ⟨0,lZr _,rfl,Ext.refl _,fun q hq=>by simp at hq,g0,g2,gs,gl,gi⟩
 rintro m' a' h' hn' ⟨i,hi,rfl,hx,hinv,e0,e2,es,el,ei⟩
 have hrom':h'.rom=r:=hx.rom.trans hrom2
 have hb':h'.base<=h'.next:=by rw[hx.base];exact lTr hb2 hx.next
 by_cases hlt:i<l.length
 rotate_left
 ·have hi0:decide ((i:Int)<(l.length:Int))=false:=dcF (by omega)
  rw[List.take_of_length_le (by omega)] at hinv
  simp -dsimp only[go_sem,e0,e2,es,el,ei,hi0]
  exact hq0 _ _ (by simp -dsimp only[go_sem,hn']) hx hinv
 have hpi:l[i]? = some l[i]:=gEl hlt
 have hi1:decide ((i:Int)<(l.length:Int))=true:=dcT (Int.ofNat_lt.2 hlt)
 obtain ⟨Av1,c1',hcs⟩:=(hk i _ hpi).shape
 have hat':=hat i _ hpi
 have hkid:=hk i _ hpi
 rw[hcs] at hat' hkid
 have hAv:=hA (aO hlt)
 subst hAv
 have hx0:=Ext.new h' (ak.cells ⟨[.string ⟨#[]⟩,.string ⟨#[]⟩,.slice none 0 0],48,0,0,false⟩)
 have hw0:=an hb' 48 [.string ⟨#[]⟩,.string ⟨#[]⟩,.slice none 0 0]
 have hst:=aE (o:=0) (vs:=[.string (l[i]).d,.string (l[i]).t,.slice Av1 (l[i]).l.length c1']) (c1:=[.string (l[i]).d,.string (l[i]).t,.slice Av1 (l[i]).l.length c1']) hw0 rfl rfl (by simp)
 have hx1:=hx0.put (b:=h'.next) (lRf _) (ak.cells ⟨[.string (l[i]).d,.string (l[i]).t,.slice Av1 (l[i]).l.length c1'],48,0,0,false⟩)
 have hP1:=av hw0 [.string (l[i]).d,.string (l[i]).t,.slice Av1 (l[i]).l.length c1']
 generalize hhA:(h'.newH (ak.cells ⟨[.string ⟨#[]⟩,.string ⟨#[]⟩,.slice none 0 0],48,0,0,false⟩)).put h'.next (ak.cells ⟨[.string (l[i]).d,.string (l[i]).t,.slice Av1 (l[i]).l.length c1'],48,0,0,false⟩)=hA1 at hst hx1 hP1
 have hxA:=hx.trans hx1
 obtain ⟨_,h6,hs6,rfl,hx6⟩:=ih i _ hpi hA1 _ (hxA.rom.trans hrom2) (by rw[hxA.base];exact lTr hb2 hxA.next) hkid (hnk i _ hpi) (aj hxA hS) hsl (aj hxA hM) (hBk.ext hxA)
 have hx7:=hxA.trans hx6
 simp -dsimp only[go_sem,e0,e2,es,el,ei,hi1,eR hlt,az (n:=3) hrom' hat' rfl,hst,af hP1]
 refine ⟨_,h6,hs6,?_⟩
 cases ob:prB (nms G) pr l[i] with
 | false =>
   simp -dsimp only[go_sem,Bool.not_false]
   exact hq1 _ _ (by simp -dsimp only[go_sem,hn']) hx7 ⟨l[i],List.getElem_mem hlt,ob⟩ (by simp -dsimp only[go_sem])
 | true =>
   simp -dsimp only[go_sem,Bool.not_true,e0,e2,es,el,ei,ah hlt hlb]
   refine ⟨l.length - (i+1),by omega,i+1,hlt,rfl,hx7,fun q hq => ?_,rfl⟩
   rw[List.take_succ_eq_append_getElem hlt] at hq
   rcases List.mem_append.1 hq with hq|hq
   ·exact hinv q hq
   ·rw[List.mem_singleton] at hq
    rw[hq];exact ob
theorem BC {l:List ad} {Av:Option Addr} {c b o:Nat} {css:Nat->List Value} (ih:∀(i:Nat) (p:ad),l[i]? = some p->vJ r G tb mb bk m eb em Gv gc lv rv x3 x4 x5 x6 x7 pr p) (hnk:∀(i:Nat) (p:ad),l[i]? = some p->ay (nms G) p=true)
  (hlb:l.length<=9223372036854775807) (hA:l≠[]->Av=some ⟨b,o,none⟩) (hat:∀(i:Nat) (p:ad),l[i]? = some p->fS r b (o+i*3) (css i)) (hk:∀(i:Nat) (p:ad),l[i]? = some p->RoPart r p (css i))
  {a:Ev.A} {h2:Hp} {Q:Ex->Ev.A->Hp->Prop} (hn:a.n=57) (hrom2:h2.rom=r) (hb2:h2.base<=h2.next) (hS:h2.own tb 4 (pr.map .bool)) (hsl:pr.length=G.length)
  (hM:h2.own mb 73 (cL bk lv rv x3 x4 x5 x6 x7)) (hBk:Book h2 bk m eb (.slice Gv G.length gc) (nms G) em)
  (g0:a.get 0=.pointer (some ⟨mb,0,none⟩)) (g2:a.get 2=.slice (some ⟨tb,0,none⟩) G.length G.length) (gs:a.get 46=.slice Av l.length c) (gl:a.get 47=.int .i64 (l.length:Int)) (gi:a.get 48=.int .i64 0)
  (hq0:∀(a1:Ev.A) (h1:Hp),a1.n=57->Ext h2 h1->(∀q∈l,prB (nms G) pr q=false)->Q (.exit 3) a1 h1)
  (hq1:∀(a1:Ev.A) (h1:Hp),a1.n=57->Ext h2 h1->(∃q∈l,prB (nms G) pr q=true)->a1.get 6=.bool true->Q .ret a1 h1) :
  Th Tryz.prog (aw Tryz.f25 [1,0,1,0,1,1,1,1,1,0,0,1,0]) a h2 Q ⟨⟩ ⟨⟩:=by
 simp only[aw,nav,Tryz.f25]
 refine au (n:=57) (by kernel_rfl) (fun m' a' h'=>∃(i:Nat),i<=l.length/\m'=l.length - i/\Ext h2 h'/\(∀q∈l.take i,prB (nms G) pr q=false) /\
  a'.get 0=.pointer (some ⟨mb,0,none⟩)/\a'.get 2=.slice (some ⟨tb,0,none⟩) G.length G.length/\a'.get 46=.slice Av l.length c/\a'.get 47=.int .i64 (l.length:Int)/\a'.get 48=.int .i64 (i:Int)) ?_ l.length _ _ hn
  ⟨0,lZr _,rfl,Ext.refl _,fun q hq=>by simp at hq,g0,g2,gs,gl,gi⟩
 rintro m' a' h' hn' ⟨i,hi,rfl,hx,hinv,e0,e2,es,el,ei⟩
 have hrom':h'.rom=r:=hx.rom.trans hrom2
 have hb':h'.base<=h'.next:=by rw[hx.base];exact lTr hb2 hx.next
 by_cases hlt:i<l.length
 rotate_left
 ·have hi0:decide ((i:Int)<(l.length:Int))=false:=dcF (by omega)
  rw[List.take_of_length_le (by omega)] at hinv
  simp -dsimp only[go_sem,e0,e2,es,el,ei,hi0]
  exact hq0 _ _ (by simp -dsimp only[go_sem,hn']) hx hinv
 have hpi:l[i]? = some l[i]:=gEl hlt
 have hi1:decide ((i:Int)<(l.length:Int))=true:=dcT (Int.ofNat_lt.2 hlt)
 obtain ⟨Av1,c1',hcs⟩:=(hk i _ hpi).shape
 have hat':=hat i _ hpi
 have hkid:=hk i _ hpi
 rw[hcs] at hat' hkid
 have hAv:=hA (aO hlt)
 subst hAv
 have hx0:=Ext.new h' (ak.cells ⟨[.string ⟨#[]⟩,.string ⟨#[]⟩,.slice none 0 0],48,0,0,false⟩)
 have hw0:=an hb' 48 [.string ⟨#[]⟩,.string ⟨#[]⟩,.slice none 0 0]
 have hst:=aE (o:=0) (vs:=[.string (l[i]).d,.string (l[i]).t,.slice Av1 (l[i]).l.length c1']) (c1:=[.string (l[i]).d,.string (l[i]).t,.slice Av1 (l[i]).l.length c1']) hw0 rfl rfl (by simp)
 have hx1:=hx0.put (b:=h'.next) (lRf _) (ak.cells ⟨[.string (l[i]).d,.string (l[i]).t,.slice Av1 (l[i]).l.length c1'],48,0,0,false⟩)
 have hP1:=av hw0 [.string (l[i]).d,.string (l[i]).t,.slice Av1 (l[i]).l.length c1']
 generalize hhA:(h'.newH (ak.cells ⟨[.string ⟨#[]⟩,.string ⟨#[]⟩,.slice none 0 0],48,0,0,false⟩)).put h'.next (ak.cells ⟨[.string (l[i]).d,.string (l[i]).t,.slice Av1 (l[i]).l.length c1'],48,0,0,false⟩)=hA1 at hst hx1 hP1
 have hxA:=hx.trans hx1
 obtain ⟨_,h6,hs6,rfl,hx6⟩:=ih i _ hpi hA1 _ (hxA.rom.trans hrom2) (by rw[hxA.base];exact lTr hb2 hxA.next) hkid (hnk i _ hpi) (aj hxA hS) hsl (aj hxA hM) (hBk.ext hxA)
 have hx7:=hxA.trans hx6
 simp -dsimp only[go_sem,e0,e2,es,el,ei,hi1,eR hlt,az (n:=3) hrom' hat' rfl,hst,af hP1]
 refine ⟨_,h6,hs6,?_⟩
 cases ob:prB (nms G) pr l[i] with
 | true =>
   simp -dsimp only[go_sem,Bool.not_false]
   exact hq1 _ _ (by simp -dsimp only[go_sem,hn']) hx7 ⟨l[i],List.getElem_mem hlt,ob⟩ (by simp -dsimp only[go_sem])
 | false =>
   simp -dsimp only[go_sem,Bool.not_true,e0,e2,es,el,ei,ah hlt hlb]
   refine ⟨l.length - (i+1),by omega,i+1,hlt,rfl,hx7,fun q hq => ?_,rfl⟩
   rw[List.take_succ_eq_append_getElem hlt] at hq
   rcases List.mem_append.1 hq with hq|hq
   ·exact hinv q hq
   ·rw[List.mem_singleton] at hq
    rw[hq];exact ob
theorem rH:∀(n:Nat) (p:ad),SizeOf.sizeOf p<n->vJ r G tb mb bk m eb em Gv gc lv rv x3 x4 x5 x6 x7 pr p:=by
 have hGl:(nms G).length=G.length:=by simp[nms]
 intro n
 induction n with
 | zero=>exact fun p hp=>absurd hp (lNz _)
 | succ n ihn =>
 rintro ⟨d,t,l⟩ hn h cs hrom hb hp hrp hS hsl hM hBk
 have ih:∀(i:Nat) (p:ad),l[i]? = some p->vJ r G tb mb bk m eb em Gv gc lv rv x3 x4 x5 x6 x7 pr p:=fun i p hp=>ihn p (by
  have:=List.sizeOf_lt_of_mem (mOg hp)
  simp only[ad.mk.sizeOf_spec] at hn
  omega)
 rw[ay,Bool.and_eq_true] at hrp
 obtain ⟨hrl,hko⟩:=hrp
 have hnk:∀(i:Nat) (p:ad),l[i]? = some p->ay (nms G) p=true:=ec hrl
 cases hp with
 | mk _ _ _ Av c b o css hc hlb hA hat hk hs =>
 refine aL wf Tryz.func25 rfl rfl (n:=57) rfl (by kernel_rfl) rfl ?_
 intro a hn hg
 have hr:Tryz.f25.results.toList=[.tmp 6]:=rfl
 have g0:=hg 0
 have g1:=hg 1
 have g2:=hg 2
 clear hg
 simp only[gC0,gC1] at g0 g1 g2
 have hP:=an hb 48 [.string d,.string t,.slice Av l.length c]
 have hx0:=Ext.new h (ak.cells ⟨[.string d,.string t,.slice Av l.length c],48,0,0,false⟩)
 simp -dsimp only[go_sem,g0,g1,g2]
 generalize h.newH (ak.cells ⟨[.string d,.string t,.slice Av l.length c],48,0,0,false⟩)=h2 at hP hx0 ⊢
 have hb2:h2.base<=h2.next:=by rw[hx0.base];exact lTr hb hx0.next
 have hrom2:h2.rom=r:=hx0.rom.trans hrom
 have hS2:=aj hx0 hS
 have hM2:=aj hx0 hM
 have hBk2:=hBk.ext hx0
 simp -dsimp only[go_sem,aa hP]
 rw[prB]
 by_cases c3:d.data.toList=[114,117,108,101]
 ·have k3:decide (d.data.toList=[114,117,108,101])=true:=dcT c3
  have hidx:ae (nms G) t<(nms G).length:=fN hko c3
  have hidG:ae (nms G) t<G.length:=by rw[<-hGl];exact hidx
  have hids:ae (nms G) t<pr.length:=by rw[hsl];exact hidG
  have hget:(pr.map Value.bool)[ae (nms G) t]? = some (.bool (pr.getD (ae (nms G) t) false)):=by
   simp only[List.getElem?_map,List.getD_eq_getElem?_getD,gEl hids,Option.map_some,Option.getD_some]
  have m0:∀h':Hp,h'.own mb 73 (cL bk lv rv x3 x4 x5 x6 x7)->h'.load ⟨mb,0,none⟩=some (.pointer (some ⟨bk,0,none⟩)):=fun h' k=>by rw[aa k];rfl
  have mk1:h2.load ⟨bk,1,none⟩=some (.map (some m)):=by rw[aa hBk2.own];rfl
  have lkb:=hBk2.lookup hidx false
  rw[if_neg (by decide)] at lkb
  rw[if_pos c3]
  simp -dsimp only[go_sem,g0,g2,aa hP,k3]
  refine aD (n:=57) [[],[],[1],[1,2],[1,2,3],[1,2,3,4],[1,2,3,4,5],[1,2,3,4,5,6],[],[8],[1,2,3,4,5,6,7,8,9],[0,1,2,3,4,5,6,7,8,9,10],[0,1,2,3,4,5,6,7,8,9,10,11],[0,1,2,3,4,5,6,7,8,9,10,11,12]] (by simp -dsimp only[go_sem,hn]) (ao (by kernel_rfl)) ?_
  simp -dsimp only[go_sem,g0,g2,m0 h2 hM2,mk1,lkb,aa hP,bM hidG,aa hS2,hget,hr]
  exact hx0
 have k3:decide (d.data.toList=[114,117,108,101])=false:=dcF c3
 rw[if_neg c3]
 by_cases c4:d.data.toList=[115,101,113]
 ·have k4:decide (d.data.toList=[115,101,113])=true:=dcT c4
  rw[if_pos c4]
  simp -dsimp only[go_sem,g0,g2,aa hP,k3,k4]
  refine zB (l:=l) (c:=c) ih hnk hlb hA hat hk (by simp -dsimp only[go_sem,hn]) hrom2 hb2 hS2 hsl hM2 hBk2 (by simp -dsimp only[go_sem,g0]) (by simp -dsimp only[go_sem,g2]) (by simp -dsimp only[go_sem]) (by simp -dsimp only[go_sem]) (by simp -dsimp only[go_sem]) (fun a1 h1 hn1 hx1 hall => ?_) (fun a1 h1 hn1 hx1 hex q6 => ?_)
  ·simp -dsimp only[go_sem,hr]
   exact ⟨by rw[(fK _ _ _).2 hall],hx0.trans hx1⟩
  ·simp -dsimp only[go_sem,q6,hr]
   refine ⟨?_,hx0.trans hx1⟩
   obtain ⟨q,h1,h2⟩:=hex
   cases hc:i7 (nms G) pr l with
   | false=>rfl
   | true=>rw[(fK _ _ _).1 hc q h1] at h2;cases h2
 have k4:decide (d.data.toList=[115,101,113])=false:=dcF c4
 rw[if_neg c4]
 by_cases c5:d.data.toList=[111,114]
 ·have k5:decide (d.data.toList=[111,114])=true:=dcT c5
  rw[if_pos c5]
  simp -dsimp only[go_sem,g0,g2,aa hP,k3,k4,k5]
  refine BC (l:=l) (c:=c) ih hnk hlb hA hat hk (by simp -dsimp only[go_sem,hn]) hrom2 hb2 hS2 hsl hM2 hBk2 (by simp -dsimp only[go_sem,g0]) (by simp -dsimp only[go_sem,g2]) (by simp -dsimp only[go_sem]) (by simp -dsimp only[go_sem]) (by simp -dsimp only[go_sem]) (fun a1 h1 hn1 hx1 hall => ?_) (fun a1 h1 hn1 hx1 hex q6 => ?_)
  ·simp -dsimp only[go_sem,hr]
   refine ⟨?_,hx0.trans hx1⟩
   cases hc:o4 (nms G) pr l with
   | false=>rfl
   | true =>
     obtain ⟨q,h1,h2⟩:=(fL _ _ _).1 hc
     rw[hall q h1] at h2;cases h2
  ·simp -dsimp only[go_sem,q6,hr]
   exact ⟨by rw[(fL _ _ _).2 hex],hx0.trans hx1⟩
 have k5:decide (d.data.toList=[111,114])=false:=dcF c5
 rw[if_neg c5]
 simp -dsimp only[go_sem,g0,g2,aa hP,k3,k4,k5,hr]
 exact hx0
end
section
section
variable {R:ByteArray->Tx->Prop} {nm:List ByteArray} {pr:List Bool} {most:Nat}
theorem zC {n:Nat} (hx:∀x:ad,∀w:Tx,mkM R x w->SizeOf.sizeOf x<n->prB nm pr x=true):∀(l:List ad),(∀x∈l,SizeOf.sizeOf x<n)->∀w:Tx,mkS R l w->i7 nm pr l=true
 | [],_,w,h=>by rw[i7]
 | x::l,hn,w,h=>by
   rw[mkS] at h
   obtain ⟨u,v,_,h1,h2⟩:=h
   rw[i7,hx x u h1 (hn x (.head _)),zC hx l (fun y hy=>hn y (.tail _ hy)) v h2]
   rfl
theorem lT (hR:∀t u,R t u->pr.getD (ae nm t) false=true):∀(n:Nat) (p:ad) (w:Tx),mkM R p w->SizeOf.sizeOf p<n->prB nm pr p=true:=by
 intro n
 induction n with
 | zero=>intro p w _ h;exact absurd h (lNz _)
 | succ n ih =>
   rintro ⟨d,t,l⟩ w h hn
   have hl:∀x∈l,SizeOf.sizeOf x<n:=fun x hx=>by
    have:=List.sizeOf_lt_of_mem hx
    simp only[ad.mk.sizeOf_spec] at hn
    omega
   rw[prB]
   by_cases c1:d.data.toList=[114,117,108,101]
   ·rw[if_pos c1]
    exact hR t w ((jB c1 w).1 h)
   rw[if_neg c1]
   by_cases c2:d.data.toList=[115,101,113]
   ·rw[if_pos c2]
    exact zC (fun x w h q=>ih x w h q) l hl w ((kh c2 w).1 h)
   rw[if_neg c2]
   by_cases c3:d.data.toList=[111,114]
   ·rw[if_pos c3,fL]
    obtain ⟨x,hx,h⟩:=(qk c3 w).1 h
    exact ⟨x,hx,ih x w h (hl x hx)⟩
   rw[if_neg c3]
def UB (R:ByteArray->Tx->Prop) (most:Nat) (p:ad) (z:Int):Prop:=∀w:Tx,w.length<=most->mkM R p w->(w.length:Int)<=z
def UBS (R:ByteArray->Tx->Prop) (most:Nat) (l:List ad) (z:Int):Prop:=∀w:Tx,w.length<=most->mkS R l w->(w.length:Int)<=z
theorem td:∀(l:List ad) (x:ad) (w:Tx),mkS R (l++[x]) w->∃u v,w=u++v/\mkS R l u/\mkM R x v
 | [],x,w,h=>by
   rw[List.nil_append,mkS] at h
   obtain ⟨u,v,e,h1,h2⟩:=h
   rw[mkS] at h2
   subst h2
   exact ⟨[],u,by rw[e];simp,by rw[mkS],h1⟩
 | y::l,x,w,h=>by
   rw[List.cons_append,mkS] at h
   obtain ⟨u,v,e,h1,h2⟩:=h
   obtain ⟨u',v',e',h3,h4⟩:=td l x v h2
   exact ⟨u++u',v',by rw[e,e',List.append_assoc],by rw[mkS];exact ⟨u,u',rfl,h1,h3⟩,h4⟩
theorem UBS.snoc {l:List ad} {x:ad} {s z:Int} (h:UBS R most l s) (hx:UB R most x z):UBS R most (l++[x]) (s+z):=by
 intro w hw h1
 obtain ⟨u,v,e,h2,h3⟩:=td l x w h1
 have el:w.length=u.length+v.length:=by rw[e,List.length_append]
 have:=h u (by omega) h2
 have:=hx v (by omega) h3
 omega
theorem UBS.min {l:List ad} {s e:Int} (h:UBS R most l s) (he:(most:Int)<=e):UBS R most l (if e<=s then e else s):=by
 intro w hw h1
 have:=h w hw h1
 split<;>omega
theorem UB.big {p:ad} {e:Int} (he:(most:Int)<=e):UB R most p e:=fun w hw _=>by omega
theorem UB.le {p:ad} {z y:Int} (h:UB R most p z) (hy:z<=y):UB R most p y:=fun w hw h1=>Int.le_trans (h w hw h1) hy
end
variable {h h1:Hp}
abbrev o5:=List (Nat×Value)
def iy (i:Nat):Value:=.int .i64 (i:Int)
theorem zD (h:Hp) (i j:Nat):eqv Tryz.prog h 40 3 (iy i) (iy j)=some (decide (i=j)):=by
 simp only[eqv,iy,Tryz.underlying3,k9]
 rfl
theorem kj (i:Nat):cH Tryz.prog 40 3 (iy i)=true:=by
 simp only[cH,iy,Tryz.underlying3]
def MemI (h:Hp) (m:Nat) (l:o5):Prop:=m<h.next/\∃es n,h.objs.get m=some (.map es n)/\es.map (fun e=>(e.key,e.val))=l.map (fun x=>(iy x.1,x.2))
def ja:o5->Nat->Nat->Option (Nat×Value)
 | [],_,_=>none
 | (j,v)::l,i,k=>if i=j then some (k,v) else ja l i (k+1)
theorem jD (h:Hp) (i:Nat):∀(l:o5) (es:List MapEntry) (k:Nat),es.map (fun e=>(e.key,e.val))=l.map (fun x=>(iy x.1,x.2))->fA Tryz.prog h 3 (iy i) es k=some (ja l i k)
 | [],[],k,_=>rfl
 | [],e::es,k,hh=>by simp at hh
 | x::l,[],k,hh=>by simp at hh
 | (j,v)::l,e::es,k,hh=>by
   simp only[List.map_cons,List.cons.injEq,Prod.mk.injEq] at hh
   obtain ⟨⟨h1,h2⟩,h3⟩:=hh
   simp only[fA,h1,zD,ja]
   by_cases c:i=j
   ·rw[if_pos c,dcT c]
    simp[h2]
   ·rw[if_neg c,dcF c]
    exact jD h i l es (k+1) h3
theorem qp:∀(l:o5) (i k:Nat) (x:Nat×Value),ja l i k=some x->(i,x.2)∈l
 | (j,v)::l,i,k,x,hh=>by
   unfold ja at hh
   split at hh
   ·rename_i c
    injection hh with hh
    subst hh
    subst c
    exact .head _
   ·exact .tail _ (qp l i (k+1) x hh)
theorem MemI.extS {S:Nat->Prop} (x:ExtS S h h1) {m:Nat} {l:o5} (k:MemI h m l) (hm:¬S m):MemI h1 m l :=
 ⟨lTl k.1 x.next,by rw[x.objs m k.1 hm];exact k.2⟩
theorem MemI.isMap {m:Nat} {l:o5} (k:MemI h m l):IsMap h m:=⟨k.1,k.2.elim fun es q=>q.elim fun n q=>⟨es,n,q.1⟩⟩
theorem uM:Tryz.prog.underlying 69=some (.map 3 3):=Tryz.underlying69
theorem MemI.lookup {m:Nat} {l:o5} (k:MemI h m l) (i:Nat):dR Tryz.prog h 69 (.map (some m)) (.int .i64 (i:Int)) true =
  some (match ja l i 0 with|some x=>.tuple #[x.2,.bool true]|none=>.tuple #[.int .i64 0,.bool false]):=by
 obtain ⟨hm,es,n,ho,he⟩:=k
 have hmm:h.map? m=some (es,n):=by simp only[Hp.map?,ho]
 have hz:bE Tryz.prog 3=some (.int .i64 0):=yz3
 have ek:(Value.int .i64 (i:Int))=iy i:=rfl
 rw[ek]
 simp only[dR,uM,ef,hmm,kj,jD h i l es 0 he]
 cases ja l i 0 with
 | none=>simp only[hz,if_true]
 | some x=>simp only[if_true]
theorem MemI.update {m:Nat} {l:o5} (k:MemI h m l) (i:Nat) (v:Value):∃o l',bF Tryz.prog h 69 (.map (some m)) (.int .i64 (i:Int)) v=some (h.put m o)/\MemI (h.put m o) m l'/\∀x∈l',x∈l\/x=(i,v):=by
 obtain ⟨hm,es,n,ho,he⟩:=k
 have hmm:h.map? m=some (es,n):=by simp only[Hp.map?,ho]
 have hi:gr (i:Int) (i:Int)=true:=by rw[k9];simp
 have hkd:fO .i64 .i64=true:=rfl
 have same:dS 40 (iy i) (iy i)=true:=by simp only[iy,dS,hi,hkd,Bool.and_true]
 have ek:(Value.int .i64 (i:Int))=iy i:=rfl
 rw[ek]
 cases hf:ja l i 0 with
 | none =>
   refine ⟨.map (es++[⟨iy i,v,n⟩]) (n+1),l++[(i,v)],?_,⟨hm,_,_,by rw[bJ,if_pos rfl],by simp[he]⟩,fun x hx => ?_⟩
   ·simp only[bF,uM,hmm,kj,jD h i l es 0 he,hf]
   ·rcases List.mem_append.1 hx with hx|hx
    ·exact .inl hx
    ·simp at hx;exact .inr hx
 | some y =>
   obtain ⟨j,w⟩:=y
   have key:∀(l:o5) (es:List MapEntry) (k:Nat),es.map (fun e=>(e.key,e.val))=l.map (fun x=>(iy x.1,x.2))->∀j w,ja l i k=some (j,w)->∃e,es[j - k]? = some e/\e.key=iy i/\k<=j:=by
    intro l
    induction l with
    | nil=>intro es k he j v hf;cases hf
    | cons x l ih =>
      obtain ⟨i',v'⟩:=x
      intro es k he j v hf
      cases es with
      | nil=>simp at he
      | cons e es =>
        simp only[List.map_cons,List.cons.injEq,Prod.mk.injEq] at he
        obtain ⟨⟨e1,e2⟩,e3⟩:=he
        unfold ja at hf
        split at hf
        ·rename_i c
         injection hf with hf
         injection hf with hf1 hf2
         subst hf1
         subst c
         exact ⟨e,by simp,e1,lRf _⟩
        ·obtain ⟨e',h1,h2,h3⟩:=ih es (k+1) e3 j v hf
         refine ⟨e',?_,h2,by omega⟩
         rw[show j - k=(j - (k+1))+1 by omega]
         simpa using h1
   obtain ⟨e,h1,h2,_⟩:=key l es 0 he j w hf
   have h1:es[j]? = some e:=by simpa using h1
   refine ⟨.map (setAt (fun e=>{ e with key:=iy i,val:=v }) es j) n,l.set j (i,v),?_,⟨hm,_,_,by rw[bJ,if_pos rfl],?_⟩,fun x hx => ?_⟩
   ·simp only[bF,uM,hmm,kj,jD h i l es 0 he,hf,h1,h2,same]
   ·have sm:∀(es:List MapEntry) (i':Nat),(setAt (fun e=>{ e with key:=iy i,val:=v }) es i').map (fun e=>(e.key,e.val))=(es.map (fun e=>(e.key,e.val))).set i' (iy i,v):=by
     intro es
     induction es with
     | nil=>intro i';simp[setAt]
     | cons e es ih=>intro i';cases i'<;>simp[setAt,ih]
    rw[sm,he,List.map_set]
   ·rcases List.mem_or_eq_of_mem_set hx with hx|hx
    ·exact .inl hx
    ·exact .inr hx
end
section
variable {r:Ro} {G:List ar} {Gv:Option Addr} {gc tb ob mb bk m eb lg most:Nat} {em pr:List Bool} {lv rv x3 x4 x5 x6:Value} {R:ByteArray->Tx->Prop} {S:Nat->Prop}
def zE (R:ByteArray->Tx->Prop) (most:Nat) (G:List ar) (l:o5):Prop:=∀(k:Nat) (v:Value),(k,v)∈l->∃z:Int,v=.int .i64 z/\0<=z/\z<=1152921504606846976/\UB R most (aZ G k) z
structure xn (R:ByteArray->Tx->Prop) (S:Nat->Prop) (most:Nat) (G:List ar) (pr:List Bool) (tb ob mb bk m eb lg:Nat):Prop where
 mo:mb≠ob
 bo:bk≠ob
 m2:m≠ob
 eo:eb≠ob
 po:tb≠ob
 ml:m≠lg
 ol:ob≠lg
 le:most<=1152921504606846976
 prl:pr.length=G.length
 prs:∀(p:ad) (w:Tx),plP S (ae (nms G)) p->mkM R p w->prB (nms G) pr p=true
 iff:∀t:ByteArray,S (ae (nms G) t)->∀w:Tx,R t w->w.length<=most/\mkM R (aZ G (ae (nms G) t)) w
 prc:∀j,pr.getD j false=true->prB (nms G) pr (aZ G j)=true
 pl:∀j,S j->plP S (ae (nms G)) (aZ G j)
structure LRd (r:Ro) (G:List ar) (Gv:Option Addr) (gc tb ob mb bk m eb lg:Nat) (em pr on:List Bool) (lv rv x3 x4 x5 x6:Value) (R:ByteArray->Tx->Prop) (most:Nat) (h:Hp):Prop where
 rom:h.rom=r
 bn:h.base<=h.next
 ho:h.own ob 4 (on.map .bool)
 hol:on.length=G.length
 hp:h.own tb 4 (pr.map .bool)
 hm:h.own mb 73 (cL bk lv rv x3 x4 x5 x6 (.map (some lg)))
 hbk:Book h bk m eb (.slice Gv G.length gc) (nms G) em
 hlm:∃l,MemI h lg l/\zE R most G l
theorem LRd.ext {on:List Bool} {h h1:Hp} (k:LRd r G Gv gc tb ob mb bk m eb lg em pr on lv rv x3 x4 x5 x6 R most h) (x:Ext h h1):LRd r G Gv gc tb ob mb bk m eb lg em pr on lv rv x3 x4 x5 x6 R most h1 :=
 ⟨x.rom.trans k.rom,by rw[x.base];exact lTr k.bn x.next,aj x k.ho,k.hol,aj x k.hp,aj x k.hm,k.hbk.ext x,k.hlm.elim fun l q=>⟨l,q.1.extS (S:=fun _=>False) x.toS (fun c=>c),q.2⟩⟩
theorem ni {b:Nat} {e:TypeId} {cs:List Value} {h h1:Hp} {l:o5} (x:ExtS (Two ob lg) h h1) (q:MemI h lg l) (k:h.own b e cs) (hb:b≠ob):h1.own b e cs:=aJ x k (fun c=>c.elim hb (fun c=>by
 rw[c] at k
 exact q.isMap.own k))
theorem LRd.step {on on2:List Bool} {h h1:Hp} (C:xn R S most G pr tb ob mb bk m eb lg) (k:LRd r G Gv gc tb ob mb bk m eb lg em pr on lv rv x3 x4 x5 x6 R most h) (x:ExtS (Two ob lg) h h1) (o:h1.own ob 4 (on2.map .bool)) (ol:on2.length=G.length) (lm:∃l,MemI h1 lg l/\zE R most G l):LRd r G Gv gc tb ob mb bk m eb lg em pr on2 lv rv x3 x4 x5 x6 R most h1:=by
 obtain ⟨l,q1,q2⟩:=k.hlm
 refine ⟨bG x k.rom,x.bn k.bn,o,ol,ni x q1 k.hp C.po,ni x q1 k.hm C.mo,k.hbk.extS x (fun c=>c.elim C.bo (fun c => ?_)) (fun c=>c.elim C.m2 C.ml) (fun c=>c.elim C.eo (fun c => ?_)),lm⟩
 ·have:=k.hbk.own
  rw[c] at this
  exact q1.isMap.own this
 ·have:=k.hbk.row
  rw[c] at this
  exact q1.isMap.own this
def vK (r:Ro) (G:List ar) (Gv:Option Addr) (gc tb ob mb bk m eb lg:Nat) (em pr:List Bool) (lv rv x3 x4 x5 x6:Value) (R:ByteArray->Tx->Prop) (S:Nat->Prop) (most bound:Nat) (p:ad):Prop:=∀(h:Hp) (cs:List Value) (on:List Bool),LRd r G Gv gc tb ob mb bk m eb lg em pr on lv rv x3 x4 x5 x6 R most h->RoPart r p cs->ay (nms G) p=true->plP S (ae (nms G)) p->cf on<=bound ->
 ∃v h1,Snd Tryz.prog 26 [.pointer (some ⟨mb,0,none⟩),.agg cs.toArray,.slice (some ⟨tb,0,none⟩) G.length G.length,.slice (some ⟨ob,0,none⟩) G.length G.length] h v h1/\∃z:Int,v=.int .i64 z /\ -1<=z/\z<=1152921504606846976/\(prB (nms G) pr p=true->0<=z)/\UB R most p z/\ExtS (Two ob lg) h h1/\LRd r G Gv gc tb ob mb bk m eb lg em pr on lv rv x3 x4 x5 x6 R most h1
theorem qq (C:xn R S most G pr tb ob mb bk m eb lg) {bound pb:Nat} {on:List Bool} {d t:ByteArray} {l:List ad} {Av:Option Addr} {c b o:Nat} {css:Nat->List Value} (hnk:∀(i:Nat) (p:ad),l[i]? = some p->ay (nms G) p=true) (hnp:∀(i:Nat) (p:ad),l[i]? = some p->plP S (ae (nms G)) p)
  (hlb:l.length<=9223372036854775807) (hA:l≠[]->Av=some ⟨b,o,none⟩) (hat:∀(i:Nat) (p:ad),l[i]? = some p->fS r b (o+i*3) (css i)) (hk:∀(i:Nat) (p:ad),l[i]? = some p->RoPart r p (css i)) (hbd:cf on<=bound)
  {a:Ev.A} {h2:Hp} {Q:Ex->Ev.A->Hp->Prop} (hn:a.n=156) (L:LRd r G Gv gc tb ob mb bk m eb lg em pr on lv rv x3 x4 x5 x6 R most h2)
  (g0:a.get 0=.pointer (some ⟨mb,0,none⟩)) (g2:a.get 2=.slice (some ⟨tb,0,none⟩) G.length G.length) (g3:a.get 3=.slice (some ⟨ob,0,none⟩) G.length G.length) (g5:a.get 5=.pointer (some ⟨pb,0,none⟩)) (gs:a.get 91=.slice Av l.length c) (gl:a.get 92=.int .i64 (l.length:Int)) (gi:a.get 93=.int .i64 0) (ge:a.get 13=.int .i64 0)
  (hq0:∀(a1:Ev.A) (h1:Hp),a1.n=156->ExtS (Two ob lg) h2 h1->LRd r G Gv gc tb ob mb bk m eb lg em pr on lv rv x3 x4 x5 x6 R most h1->(∀q∈l,prB (nms G) pr q=true)->a1.get 0=.pointer (some ⟨mb,0,none⟩)->a1.get 2=.slice (some ⟨tb,0,none⟩) G.length G.length->a1.get 3=.slice (some ⟨ob,0,none⟩) G.length G.length->a1.get 5=.pointer (some ⟨pb,0,none⟩)->a1.get 13=.int .i64 0->Q (.exit 1) a1 h1)
  (hq1:∀(a1:Ev.A) (h1:Hp),a1.n=156->ExtS (Two ob lg) h2 h1->LRd r G Gv gc tb ob mb bk m eb lg em pr on lv rv x3 x4 x5 x6 R most h1->(∃q∈l,prB (nms G) pr q=false)->a1.get 8=.int .i64 (-1)->Q .ret a1 h1) :
  Th Tryz.prog (aw Tryz.f26 [1,0,1,0,1,1,1,1,1,1,1,0,1,0,1,0]) a h2 Q ⟨⟩ ⟨⟩:=by
 simp only[aw,nav,Tryz.f26]
 refine au (n:=156) (by kernel_rfl) (fun m' a' h'=>∃(i:Nat) (z:Int),i<=l.length/\m'=l.length - i/\ExtS (Two ob lg) h2 h'/\LRd r G Gv gc tb ob mb bk m eb lg em pr on lv rv x3 x4 x5 x6 R most h'/\(∀q∈l.take i,prB (nms G) pr q=true) /\
  a'.get 0=.pointer (some ⟨mb,0,none⟩)/\a'.get 2=.slice (some ⟨tb,0,none⟩) G.length G.length/\a'.get 3=.slice (some ⟨ob,0,none⟩) G.length G.length/\a'.get 5=.pointer (some ⟨pb,0,none⟩)/\a'.get 91=.slice Av l.length c/\a'.get 92=.int .i64 (l.length:Int)/\a'.get 93=.int .i64 (i:Int)/\a'.get 13=.int .i64 0) ?_ l.length _ _ hn
  ⟨0,0,lZr _,rfl,(Ext.refl _).toS,L,fun q hq=>by simp at hq,g0,g2,g3,g5,gs,gl,gi,ge⟩
 rintro m' a' h' hn' ⟨i,z,hi,rfl,hx,L',hinv,e0,e2,e3,e5,es,el,ei,ee⟩
 have hrom':=L'.rom
 have hb':=L'.bn
 by_cases hlt:i<l.length
 rotate_left
 ·have hi0:decide ((i:Int)<(l.length:Int))=false:=dcF (by omega)
  rw[List.take_of_length_le (by omega)] at hinv
  simp -dsimp only[go_sem,e0,e2,e3,e5,es,el,ei,ee,hi0]
  exact hq0 _ _ (by simp -dsimp only[go_sem,hn']) hx L' hinv (by simp -dsimp only[go_sem,e0]) (by simp -dsimp only[go_sem,e2]) (by simp -dsimp only[go_sem,e3]) (by simp -dsimp only[go_sem,e5]) (by simp -dsimp only[go_sem,ee])
 have hpi:l[i]? = some l[i]:=gEl hlt
 have hi1:decide ((i:Int)<(l.length:Int))=true:=dcT (Int.ofNat_lt.2 hlt)
 obtain ⟨Av1,c1',hcs⟩:=(hk i _ hpi).shape
 have hat':=hat i _ hpi
 have hkid:=hk i _ hpi
 rw[hcs] at hat' hkid
 have hAv:=hA (aO hlt)
 subst hAv
 have hx0:=Ext.new h' (ak.cells ⟨[.string ⟨#[]⟩,.string ⟨#[]⟩,.slice none 0 0],48,0,0,false⟩)
 have hw0:=an hb' 48 [.string ⟨#[]⟩,.string ⟨#[]⟩,.slice none 0 0]
 have hst:=aE (o:=0) (vs:=[.string (l[i]).d,.string (l[i]).t,.slice Av1 (l[i]).l.length c1']) (c1:=[.string (l[i]).d,.string (l[i]).t,.slice Av1 (l[i]).l.length c1']) hw0 rfl rfl (by simp)
 have hx1:=hx0.put (b:=h'.next) (lRf _) (ak.cells ⟨[.string (l[i]).d,.string (l[i]).t,.slice Av1 (l[i]).l.length c1'],48,0,0,false⟩)
 have hP1:=av hw0 [.string (l[i]).d,.string (l[i]).t,.slice Av1 (l[i]).l.length c1']
 generalize hhA:(h'.newH (ak.cells ⟨[.string ⟨#[]⟩,.string ⟨#[]⟩,.slice none 0 0],48,0,0,false⟩)).put h'.next (ak.cells ⟨[.string (l[i]).d,.string (l[i]).t,.slice Av1 (l[i]).l.length c1'],48,0,0,false⟩)=hA1 at hst hx1 hP1
 have LA:=L'.ext hx1
 obtain ⟨_,h6,hs6,rfl,hx6⟩:=rH _ _ (lSs _) hA1 _ LA.rom LA.bn hkid (hnk i _ hpi) LA.hp C.prl LA.hm LA.hbk
 have L6:=LA.ext hx6
 have hx7:=hx.trans ((hx1.trans hx6).toS (S:=Two ob lg))
 simp -dsimp only[go_sem,e0,e2,e3,e5,es,el,ei,ee,hi1,eR hlt,az (n:=3) hrom' hat' rfl,hst,af hP1]
 refine ⟨_,h6,hs6,?_⟩
 cases ob:prB (nms G) pr l[i] with
 | false =>
   simp -dsimp only[go_sem,Bool.not_false]
   exact hq1 _ _ (by simp -dsimp only[go_sem,hn']) hx7 L6 ⟨l[i],List.getElem_mem hlt,ob⟩ (by simp -dsimp only[go_sem])
 | true =>
   simp -dsimp only[go_sem,Bool.not_true,e0,e2,e3,e5,es,el,ei,ee,ah hlt hlb]
   refine ⟨l.length - (i+1),by omega,i+1,0,hlt,rfl,hx7,L6,fun q hq => ?_,by first|rfl|simp⟩
   rw[List.take_succ_eq_append_getElem hlt] at hq
   rcases List.mem_append.1 hq with hq|hq
   ·exact hinv q hq
   ·rw[List.mem_singleton] at hq
    rw[hq];exact ob
end
section
variable {r:Ro} {G:List ar} {Gv:Option Addr} {gc tb ob mb bk m eb lg most:Nat} {em pr:List Bool} {lv rv x3 x4 x5 x6:Value} {R:ByteArray->Tx->Prop} {S:Nat->Prop}
theorem qr (C:xn R S most G pr tb ob mb bk m eb lg) {bound pb:Nat} {on:List Bool} {d t:ByteArray} {l:List ad} {Av:Option Addr} {c b o:Nat} {css:Nat->List Value} (ih:∀(i:Nat) (p:ad),l[i]? = some p->vK r G Gv gc tb ob mb bk m eb lg em pr lv rv x3 x4 x5 x6 R S most bound p) (hall:∀q∈l,prB (nms G) pr q=true) (hnk:∀(i:Nat) (p:ad),l[i]? = some p->ay (nms G) p=true) (hnp:∀(i:Nat) (p:ad),l[i]? = some p->plP S (ae (nms G)) p)
  (hlb:l.length<=9223372036854775807) (hA:l≠[]->Av=some ⟨b,o,none⟩) (hat:∀(i:Nat) (p:ad),l[i]? = some p->fS r b (o+i*3) (css i)) (hk:∀(i:Nat) (p:ad),l[i]? = some p->RoPart r p (css i)) (hbd:cf on<=bound)
  {a:Ev.A} {h2:Hp} {Q:Ex->Ev.A->Hp->Prop} (hn:a.n=156) (L:LRd r G Gv gc tb ob mb bk m eb lg em pr on lv rv x3 x4 x5 x6 R most h2)
  (g0:a.get 0=.pointer (some ⟨mb,0,none⟩)) (g2:a.get 2=.slice (some ⟨tb,0,none⟩) G.length G.length) (g3:a.get 3=.slice (some ⟨ob,0,none⟩) G.length G.length) (g5:a.get 5=.pointer (some ⟨pb,0,none⟩)) (gs:a.get 104=.slice Av l.length c) (gl:a.get 105=.int .i64 (l.length:Int)) (gi:a.get 106=.int .i64 0) (ge:a.get 13=.int .i64 (0))
  (hq0:∀(a1:Ev.A) (h1:Hp) (z:Int),a1.n=156->ExtS (Two ob lg) h2 h1->LRd r G Gv gc tb ob mb bk m eb lg em pr on lv rv x3 x4 x5 x6 R most h1->0<=z->z<=1152921504606846976->UBS R most l z->a1.get 13=.int .i64 z->Q (.exit 3) a1 h1) :
  Th Tryz.prog (aw Tryz.f26 [1,0,1,0,1,1,1,1,1,1,1,0,1,1,0,1,0]) a h2 Q ⟨⟩ ⟨⟩:=by
 simp only[aw,nav,Tryz.f26]
 refine au (n:=156) (by kernel_rfl) (fun m' a' h'=>∃(i:Nat) (z:Int),i<=l.length/\m'=l.length - i/\ExtS (Two ob lg) h2 h'/\LRd r G Gv gc tb ob mb bk m eb lg em pr on lv rv x3 x4 x5 x6 R most h'/\(0<=z/\z<=1152921504606846976/\UBS R most (l.take i) z) /\
  a'.get 0=.pointer (some ⟨mb,0,none⟩)/\a'.get 2=.slice (some ⟨tb,0,none⟩) G.length G.length/\a'.get 3=.slice (some ⟨ob,0,none⟩) G.length G.length/\a'.get 5=.pointer (some ⟨pb,0,none⟩)/\a'.get 104=.slice Av l.length c/\a'.get 105=.int .i64 (l.length:Int)/\a'.get 106=.int .i64 (i:Int)/\a'.get 13=.int .i64 z) ?_ l.length _ _ hn
  ⟨0,0,lZr _,rfl,(Ext.refl _).toS,L,⟨by decide,by decide,fun w _ h=>by rw[List.take_zero,mkS] at h;rw[h];exact Int.le_refl _⟩,g0,g2,g3,g5,gs,gl,gi,ge⟩
 rintro m' a' h' hn' ⟨i,z,hi,rfl,hx,L',hinv,e0,e2,e3,e5,es,el,ei,ee⟩
 have hrom':=L'.rom
 have hb':=L'.bn
 by_cases hlt:i<l.length
 rotate_left
 ·have hi0:decide ((i:Int)<(l.length:Int))=false:=dcF (by omega)
  rw[List.take_of_length_le (by omega)] at hinv
  simp -dsimp only[go_sem,e0,e2,e3,e5,es,el,ei,ee,hi0]
  exact hq0 _ _ z (by simp -dsimp only[go_sem,hn']) hx L' hinv.1 hinv.2.1 hinv.2.2 (by simp -dsimp only[go_sem,ee])
 have hpi:l[i]? = some l[i]:=gEl hlt
 have hi1:decide ((i:Int)<(l.length:Int))=true:=dcT (Int.ofNat_lt.2 hlt)
 obtain ⟨Av1,c1',hcs⟩:=(hk i _ hpi).shape
 have hat':=hat i _ hpi
 have hkid:=hk i _ hpi
 rw[hcs] at hat' hkid
 have hAv:=hA (aO hlt)
 subst hAv
 have hx0:=Ext.new h' (ak.cells ⟨[.string ⟨#[]⟩,.string ⟨#[]⟩,.slice none 0 0],48,0,0,false⟩)
 have hw0:=an hb' 48 [.string ⟨#[]⟩,.string ⟨#[]⟩,.slice none 0 0]
 have hst:=aE (o:=0) (vs:=[.string (l[i]).d,.string (l[i]).t,.slice Av1 (l[i]).l.length c1']) (c1:=[.string (l[i]).d,.string (l[i]).t,.slice Av1 (l[i]).l.length c1']) hw0 rfl rfl (by simp)
 have hx1:=hx0.put (b:=h'.next) (lRf _) (ak.cells ⟨[.string (l[i]).d,.string (l[i]).t,.slice Av1 (l[i]).l.length c1'],48,0,0,false⟩)
 have hP1:=av hw0 [.string (l[i]).d,.string (l[i]).t,.slice Av1 (l[i]).l.length c1']
 generalize hhA:(h'.newH (ak.cells ⟨[.string ⟨#[]⟩,.string ⟨#[]⟩,.slice none 0 0],48,0,0,false⟩)).put h'.next (ak.cells ⟨[.string (l[i]).d,.string (l[i]).t,.slice Av1 (l[i]).l.length c1'],48,0,0,false⟩)=hA1 at hst hx1 hP1
 have LA:=L'.ext hx1
 obtain ⟨_,h6,hs6,z6,rfl,z1,z2,z3,z4,X6,L6⟩:=ih i _ hpi hA1 _ on LA hkid (hnk i _ hpi) (hnp i _ hpi) hbd
 have hx7:=hx.trans ((hx1.toS (S:=Two ob lg)).trans X6)
 simp -dsimp only[go_sem,e0,e2,e3,e5,es,el,ei,ee,hi1,eR hlt,az (n:=3) hrom' hat' rfl,hst,af hP1]
 refine ⟨_,h6,hs6,?_⟩
 have z3:=z3 (hall _ (List.getElem_mem hlt))
 obtain ⟨h1,h2',h3⟩:=hinv
 have hwr:IntKind.i64.wrap (z+z6)=z+z6:=by
  obtain ⟨n1,rfl⟩:=Int.eq_ofNat_of_zero_le h1
  obtain ⟨n2,rfl⟩:=Int.eq_ofNat_of_zero_le z3
  have:=dq (n:=n1+n2) (by omega)
  push_cast at this
  exact this
 have hsn:UBS R most (l.take (i+1)) (z+z6):=by
  rw[List.take_succ_eq_append_getElem hlt]
  exact h3.snoc z4
 by_cases cz:(1152921504606846976:Int)<z+z6
 ·have cc:decide (z+z6<1152921504606846976)=false:=dcF (by omega)
  have cc2:mm false 1152921504606846976 (z+z6)=1152921504606846976:=by
   simp only[mm,dH]
   split<;>rename_i q<;>simp only[decide_eq_true_iff,decide_eq_false_iff_not] at q<;>omega
  simp -dsimp only[go_sem,e0,e2,e3,e5,es,el,ei,ee,hwr,d6,cc,cc2,ah hlt hlb]
  exact ⟨l.length - (i+1),by omega,i+1,1152921504606846976,hlt,rfl,hx7,L6,⟨by decide,by decide,fun w hw _=>by have:=C.le;omega⟩,by first|rfl|simp[cc2]⟩
 ·have cc:mm false 1152921504606846976 (z+z6)=z+z6:=by
   simp only[mm,dH]
   split<;>rename_i q<;>simp only[decide_eq_true_iff,decide_eq_false_iff_not] at q<;>omega
  simp -dsimp only[go_sem,e0,e2,e3,e5,es,el,ei,ee,hwr,d6,cc,ah hlt hlb]
  exact ⟨l.length - (i+1),by omega,i+1,z+z6,hlt,rfl,hx7,L6,⟨by omega,by omega,hsn⟩,by first|rfl|simp[cc]⟩
theorem BD (C:xn R S most G pr tb ob mb bk m eb lg) {bound pb:Nat} {on:List Bool} {d t:ByteArray} {l:List ad} {Av:Option Addr} {c b o:Nat} {css:Nat->List Value} (ih:∀(i:Nat) (p:ad),l[i]? = some p->vK r G Gv gc tb ob mb bk m eb lg em pr lv rv x3 x4 x5 x6 R S most bound p) (hnk:∀(i:Nat) (p:ad),l[i]? = some p->ay (nms G) p=true) (hnp:∀(i:Nat) (p:ad),l[i]? = some p->plP S (ae (nms G)) p)
  (hlb:l.length<=9223372036854775807) (hA:l≠[]->Av=some ⟨b,o,none⟩) (hat:∀(i:Nat) (p:ad),l[i]? = some p->fS r b (o+i*3) (css i)) (hk:∀(i:Nat) (p:ad),l[i]? = some p->RoPart r p (css i)) (hbd:cf on<=bound)
  {a:Ev.A} {h2:Hp} {Q:Ex->Ev.A->Hp->Prop} (hn:a.n=156) (L:LRd r G Gv gc tb ob mb bk m eb lg em pr on lv rv x3 x4 x5 x6 R most h2)
  (g0:a.get 0=.pointer (some ⟨mb,0,none⟩)) (g2:a.get 2=.slice (some ⟨tb,0,none⟩) G.length G.length) (g3:a.get 3=.slice (some ⟨ob,0,none⟩) G.length G.length) (g5:a.get 5=.pointer (some ⟨pb,0,none⟩)) (gs:a.get 123=.slice Av l.length c) (gl:a.get 124=.int .i64 (l.length:Int)) (gi:a.get 125=.int .i64 0) (ge:a.get 18=.int .i64 (-1))
  (hq0:∀(a1:Ev.A) (h1:Hp) (z:Int),a1.n=156->ExtS (Two ob lg) h2 h1->LRd r G Gv gc tb ob mb bk m eb lg em pr on lv rv x3 x4 x5 x6 R most h1 -> -1<=z->z<=1152921504606846976->(∀q∈l,prB (nms G) pr q=true->0<=z)->(∀q∈l,UB R most q z)->a1.get 18=.int .i64 z->Q (.exit 5) a1 h1) :
  Th Tryz.prog (aw Tryz.f26 [1,0,1,0,1,1,1,1,1,1,1,1,1,0,1,0,1,0]) a h2 Q ⟨⟩ ⟨⟩:=by
 simp only[aw,nav,Tryz.f26]
 refine au (n:=156) (by kernel_rfl) (fun m' a' h'=>∃(i:Nat) (z:Int),i<=l.length/\m'=l.length - i/\ExtS (Two ob lg) h2 h'/\LRd r G Gv gc tb ob mb bk m eb lg em pr on lv rv x3 x4 x5 x6 R most h'/\(-1<=z/\z<=1152921504606846976/\(∀q∈l.take i,prB (nms G) pr q=true->0<=z)/\∀q∈l.take i,UB R most q z) /\
  a'.get 0=.pointer (some ⟨mb,0,none⟩)/\a'.get 2=.slice (some ⟨tb,0,none⟩) G.length G.length/\a'.get 3=.slice (some ⟨ob,0,none⟩) G.length G.length/\a'.get 5=.pointer (some ⟨pb,0,none⟩)/\a'.get 123=.slice Av l.length c/\a'.get 124=.int .i64 (l.length:Int)/\a'.get 125=.int .i64 (i:Int)/\a'.get 18=.int .i64 z) ?_ l.length _ _ hn
  ⟨0,-1,lZr _,rfl,(Ext.refl _).toS,L,⟨by decide,by decide,fun q hq=>by simp at hq,fun q hq=>by simp at hq⟩,g0,g2,g3,g5,gs,gl,gi,ge⟩
 rintro m' a' h' hn' ⟨i,z,hi,rfl,hx,L',hinv,e0,e2,e3,e5,es,el,ei,ee⟩
 have hrom':=L'.rom
 have hb':=L'.bn
 by_cases hlt:i<l.length
 rotate_left
 ·have hi0:decide ((i:Int)<(l.length:Int))=false:=dcF (by omega)
  rw[List.take_of_length_le (by omega)] at hinv
  simp -dsimp only[go_sem,e0,e2,e3,e5,es,el,ei,ee,hi0]
  exact hq0 _ _ z (by simp -dsimp only[go_sem,hn']) hx L' hinv.1 hinv.2.1 hinv.2.2.1 hinv.2.2.2 (by simp -dsimp only[go_sem,ee])
 have hpi:l[i]? = some l[i]:=gEl hlt
 have hi1:decide ((i:Int)<(l.length:Int))=true:=dcT (Int.ofNat_lt.2 hlt)
 obtain ⟨Av1,c1',hcs⟩:=(hk i _ hpi).shape
 have hat':=hat i _ hpi
 have hkid:=hk i _ hpi
 rw[hcs] at hat' hkid
 have hAv:=hA (aO hlt)
 subst hAv
 have hx0:=Ext.new h' (ak.cells ⟨[.string ⟨#[]⟩,.string ⟨#[]⟩,.slice none 0 0],48,0,0,false⟩)
 have hw0:=an hb' 48 [.string ⟨#[]⟩,.string ⟨#[]⟩,.slice none 0 0]
 have hst:=aE (o:=0) (vs:=[.string (l[i]).d,.string (l[i]).t,.slice Av1 (l[i]).l.length c1']) (c1:=[.string (l[i]).d,.string (l[i]).t,.slice Av1 (l[i]).l.length c1']) hw0 rfl rfl (by simp)
 have hx1:=hx0.put (b:=h'.next) (lRf _) (ak.cells ⟨[.string (l[i]).d,.string (l[i]).t,.slice Av1 (l[i]).l.length c1'],48,0,0,false⟩)
 have hP1:=av hw0 [.string (l[i]).d,.string (l[i]).t,.slice Av1 (l[i]).l.length c1']
 generalize hhA:(h'.newH (ak.cells ⟨[.string ⟨#[]⟩,.string ⟨#[]⟩,.slice none 0 0],48,0,0,false⟩)).put h'.next (ak.cells ⟨[.string (l[i]).d,.string (l[i]).t,.slice Av1 (l[i]).l.length c1'],48,0,0,false⟩)=hA1 at hst hx1 hP1
 have LA:=L'.ext hx1
 obtain ⟨_,h6,hs6,z6,rfl,z1,z2,z3,z4,X6,L6⟩:=ih i _ hpi hA1 _ on LA hkid (hnk i _ hpi) (hnp i _ hpi) hbd
 have hx7:=hx.trans ((hx1.toS (S:=Two ob lg)).trans X6)
 simp -dsimp only[go_sem,e0,e2,e3,e5,es,el,ei,ee,hi1,eR hlt,az (n:=3) hrom' hat' rfl,hst,af hP1]
 refine ⟨_,h6,hs6,?_⟩
 obtain ⟨h1,h2',h3,h4⟩:=hinv
 have both:∀y:Int,z<=y->z6<=y->(∀q∈l.take (i+1),prB (nms G) pr q=true->0<=y)/\∀q∈l.take (i+1),UB R most q y:=by
  intro y hy1 hy2
  rw[List.take_succ_eq_append_getElem hlt]
  refine ⟨fun q hq hp => ?_,fun q hq => ?_⟩
  ·rcases List.mem_append.1 hq with hq|hq
   ·have:=h3 q hq hp;omega
   ·rw[List.mem_singleton] at hq
    subst hq
    have:=z3 hp;omega
  ·rcases List.mem_append.1 hq with hq|hq
   ·exact (h4 q hq).le hy1
   ·rw[List.mem_singleton] at hq
    subst hq
    exact z4.le hy2
 by_cases cz:z<z6
 ·have cc:mm true z z6=z6:=by
   simp only[mm,dH]
   split<;>rename_i q<;>simp only[decide_eq_true_iff,decide_eq_false_iff_not] at q<;>omega
  simp -dsimp only[go_sem,e0,e2,e3,e5,es,el,ei,ee,d6,cc,ah hlt hlb]
  exact ⟨l.length - (i+1),by omega,i+1,z6,hlt,rfl,hx7,L6,⟨z1,z2,both z6 (by omega) (by omega)⟩,by first|rfl|simp[cc]⟩
 ·have cc:mm true z z6=z:=by
   simp only[mm,dH]
   split<;>rename_i q<;>simp only[decide_eq_true_iff,decide_eq_false_iff_not] at q<;>omega
  simp -dsimp only[go_sem,e0,e2,e3,e5,es,el,ei,ee,d6,cc,ah hlt hlb]
  exact ⟨l.length - (i+1),by omega,i+1,z,hlt,rfl,hx7,L6,⟨h1,h2',both z (by omega) (by omega)⟩,by first|rfl|simp[cc]⟩
end
section
variable {r:Ro} {G:List ar} {Gv:Option Addr} {gc tb ob mb bk m eb lg most:Nat} {em pr:List Bool} {lv rv x3 x4 x5 x6:Value} {R:ByteArray->Tx->Prop} {S:Nat->Prop}
theorem mH (x:Bool):∀{bs:List Bool} {k:Nat},k<bs.length->bC (bs.map Value.bool) k [.bool x]=some ((bs.set k x).map .bool)
 | [],k,h=>absurd h (lNz _)
 | y::bs,0,h=>by cases bs<;>simp[bC]
 | y::bs,k+1,h=>by
   have:=mH x (bs:=bs) (k:=k) (by simpa using h)
   simp only[List.map_cons,List.set_cons_succ,bC,this]
theorem zF {bs:List Bool} {k:Nat} (h:bs.getD k false=false):(bs.set k true).set k false=bs:=by
 rw[List.set_set]
 refine List.ext_getElem? fun i => ?_
 rw[List.getElem?_set]
 by_cases e:k=i
 ·subst e
  rw[if_pos rfl]
  rw[List.getD_eq_getElem?_getD] at h
  by_cases hl:k<bs.length
  ·rw[if_pos hl]
   rw[gEl hl] at h ⊢
   exact congrArg some h.symm
  ·rw[if_neg hl,List.getElem?_eq_none (by omega)]
 ·rw[if_neg e]
theorem BE (C:xn R S most G pr tb ob mb bk m eb lg) {gb go:Nat} {gcss:Nat->List Value} (RR:bd r G Gv gc gb go gcss) (hnG:∀(i:Nat) (x:ar),G[i]? = some x->ay (nms G) x.body=true):∀(bound n:Nat) (p:ad),SizeOf.sizeOf p<n->vK r G Gv gc tb ob mb bk m eb lg em pr lv rv x3 x4 x5 x6 R S most bound p:=by
 have hGl:(nms G).length=G.length:=by simp[nms]
 intro bound
 induction bound using Nat.strongRecOn with
 | _ bound ihB =>
 intro n
 induction n with
 | zero=>exact fun p hp=>absurd hp (lNz _)
 | succ n ihn =>
 rintro ⟨d,t,l⟩ hn h cs on L hp hrp hpp hbd
 have ih:∀(i:Nat) (p:ad),l[i]? = some p->vK r G Gv gc tb ob mb bk m eb lg em pr lv rv x3 x4 x5 x6 R S most bound p:=fun i p hp=>ihn p (by
  have:=List.sizeOf_lt_of_mem (mOg hp)
  simp only[ad.mk.sizeOf_spec] at hn
  omega)
 have hkd:=zr hrp hpp
 have hrp0:=hrp
 rw[ay,Bool.and_eq_true] at hrp
 obtain ⟨hrl,hko⟩:=hrp
 have hnk:∀(i:Nat) (p:ad),l[i]? = some p->ay (nms G) p=true:=ec hrl
 have hnp:∀(i:Nat) (p:ad),l[i]? = some p->plP S (ae (nms G)) p:=fun i p hi=>iu _ _ (mOg hi) (li hpp)
 cases hp with
 | mk _ _ _ Av c b o css hc hlb hA hat hk hs =>
 refine aL wf Tryz.func26 rfl rfl (n:=156) rfl (by kernel_rfl) rfl ?_
 intro a hn' hg
 have hr:Tryz.f26.results.toList=[.tmp 8]:=rfl
 have g0:=hg 0
 have g1:=hg 1
 have g2:=hg 2
 have g3:=hg 3
 clear hg
 simp only[gC0,gC1] at g0 g1 g2 g3
 have hb:=L.bn
 have hP:=an hb 48 [.string d,.string t,.slice Av l.length c]
 have hx0:=Ext.new h (ak.cells ⟨[.string d,.string t,.slice Av l.length c],48,0,0,false⟩)
 simp -dsimp only[go_sem,g0,g1,g2,g3]
 have hon:=L.ho.2.1
 generalize h.newH (ak.cells ⟨[.string d,.string t,.slice Av l.length c],48,0,0,false⟩)=h2 at hP hx0 ⊢
 have L2:=L.ext hx0
 have xS:ExtS (Two ob lg) h h2:=hx0.toS
 have npo:h.next≠ob:=by omega
 simp -dsimp only[go_sem,aa hP]
 rcases hkd with hd|⟨hd,hidx⟩|hd|⟨hd,hsq⟩|⟨hd,x,hx1⟩|hd
 ·have k1:decide (d.data.toList=[105,115])=true:=dcT hd
  simp -dsimp only[go_sem,k1,hr]
  exact ⟨1,rfl,by decide,by decide,fun _=>by decide,fun w _ h=>by rw[(sY hd w).1 h];simp,xS,L2⟩
 ·have k1:decide (d.data.toList=[105,115])=false:=dcF (by rw[hd];decide)
  have k2:decide (d.data.toList=[110,111,116,104,105,110,103])=false:=dcF (by rw[hd];decide)
  have k3:decide (d.data.toList=[114,117,108,101])=true:=dcT hd
  have hS:S (ae (nms G) t):=by
   rw[plP] at hpp
   exact hpp.2.1 hd
  have hidG:ae (nms G) t<G.length:=by rw[<-hGl];exact hidx
  have hidp:ae (nms G) t<pr.length:=by rw[C.prl];exact hidG
  have hido:ae (nms G) t<on.length:=by rw[L.hol];exact hidG
  have hgetp:(pr.map Value.bool)[ae (nms G) t]? = some (.bool (pr.getD (ae (nms G) t) false)):=by
   simp only[List.getElem?_map,List.getD_eq_getElem?_getD,gEl hidp,Option.map_some,Option.getD_some]
  have hgeto:(on.map Value.bool)[ae (nms G) t]? = some (.bool (on.getD (ae (nms G) t) false)):=by
   simp only[List.getElem?_map,List.getD_eq_getElem?_getD,gEl hido,Option.map_some,Option.getD_some]
  have m0:∀h':Hp,h'.own mb 73 (cL bk lv rv x3 x4 x5 x6 (.map (some lg)))->h'.load ⟨mb,0,none⟩=some (.pointer (some ⟨bk,0,none⟩)):=fun h' k=>by rw[aa k];rfl
  have m7:∀h':Hp,h'.own mb 73 (cL bk lv rv x3 x4 x5 x6 (.map (some lg)))->h'.load ⟨mb,7,none⟩=some (.map (some lg)):=fun h' k=>by rw[aa k];rfl
  have mk1:h2.load ⟨bk,1,none⟩=some (.map (some m)):=by rw[aa L2.hbk.own];rfl
  have lkb:=L2.hbk.lookup hidx false
  rw[if_neg (by decide)] at lkb
  have prBd:prB (nms G) pr ⟨d,t,l⟩=pr.getD (ae (nms G) t) false:=by rw[prB,if_pos hd]
  have ub:∀z:Int,UB R most (aZ G (ae (nms G) t)) z->UB R most ⟨d,t,l⟩ z:=fun z q w hw h=>q w hw ((C.iff t hS w ((jB hd w).1 h)).2)
  simp -dsimp only[go_sem,g0,g2,g3,aa hP,k1,k2,k3]
  refine aD (n:=156) [[],[0],[0,1],[0,1,2],[0,1,2,3],[0,1,2,3,4],[0,1,2,3,4,5],[],[7],[0,1,2,3,4,5,6,7,8],[0,1,2,3,4,5,6,7,8,9]] (by simp -dsimp only[go_sem,hn']) (ao (by kernel_rfl)) ?_
  cases hpn:pr.getD (ae (nms G) t) false with
  | false =>
    rw[hpn] at hgetp prBd
    simp -dsimp only[go_sem,g0,g2,g3,m0 h2 L2.hm,mk1,lkb,aa hP,bM hidG,aa L2.hp,hgetp,Bool.not_false,hr]
    refine ⟨-1,rfl,by decide,by decide,fun c=>(by rw[prBd] at c;cases c),fun w _ h => ?_,xS,L2⟩
    have:=C.prs _ w hpp h
    rw[prBd] at this
    cases this
  | true =>
    rw[hpn] at hgetp prBd
    cases hsn:on.getD (ae (nms G) t) false with
    | true =>
      rw[hsn] at hgeto
      simp -dsimp only[go_sem,g0,g2,g3,m0 h2 L2.hm,mk1,lkb,aa hP,bM hidG,aa L2.hp,aa L2.ho,hgetp,hgeto,Bool.not_true,hr]
      exact ⟨1152921504606846976,rfl,by decide,by decide,fun _=>by decide,UB.big (by have:=C.le;omega),xS,L2⟩
    | false =>
      rw[hsn] at hgeto
      obtain ⟨lm,q1,q2⟩:=L2.hlm
      have lkl:=q1.lookup (ae (nms G) t)
      cases hf:ja lm (ae (nms G) t) 0 with
      | some v =>
        rw[hf] at lkl
        obtain ⟨z,hv,z1,z2,z3⟩:=q2 _ v.2 (qp _ _ _ _ hf)
        obtain ⟨q,v⟩:=v
        have hv:v=.int .i64 z:=hv
        subst hv
        simp only at lkl
        simp -dsimp only[go_sem,g0,g2,g3,m0 h2 L2.hm,m7 h2 L2.hm,mk1,lkb,lkl,aa hP,bM hidG,aa L2.hp,aa L2.ho,hgetp,hgeto,Bool.not_true,hr]
        exact ⟨z,rfl,by omega,z2,fun _=>z1,ub z z3,xS,L2⟩
      | none =>
        rw[hf] at lkl
        simp only at lkl
        have hlt:=gN hsn hido
        have hsto:=aE L2.ho (o:=ae (nms G) t) (vs:=[.bool true]) rfl (dP hido) (by simp)
        have xp:ExtS (Two ob lg) h2 (h2.put ob (.cells ⟨(on.set (ae (nms G) t) true).map .bool,4,0,0,false⟩)):=(Ext.refl h2).toS.put (.inr (.inl rfl)) _
        have xo:ExtS (aR ob) h2 (h2.put ob (.cells ⟨(on.set (ae (nms G) t) true).map .bool,4,0,0,false⟩)):=(Ext.refl h2).toS.put (.inr (show aR ob ob from rfl)) _
        have L3:=L2.step C (on2:=on.set (ae (nms G) t) true) xp (av L2.ho _) (by rw[List.length_set];exact L2.hol) ⟨lm,q1.extS xo (fun c=>C.ol (show lg=ob from c).symm),q2⟩
        generalize hh3:h2.put ob (.cells ⟨(on.set (ae (nms G) t) true).map .bool,4,0,0,false⟩)=h3 at hsto xp xo L3
        have hpi:G[ae (nms G) t]? = some G[ae (nms G) t]:=gEl hidG
        have hbd2:=jC hpi
        obtain ⟨Av1,c1',hcs⟩:=(RR.hk _ _ hpi).shape
        have hat':=RR.hat _ _ hpi
        have hkid:=RR.hk _ _ hpi
        rw[hcs] at hat' hkid
        have hat2:=dY hat'
        have hAv:=RR.hA (aO hidG)
        subst hAv
        obtain ⟨_,h7,hs7,z,rfl,z1,z2,z3,z4,X7,L7⟩:=ihB (cf (on.set (ae (nms G) t) true)) (lTl hlt hbd) _ G[ae (nms G) t].body (lSs _) h3 _ (on.set (ae (nms G) t) true) L3 hkid (hnG _ _ hpi) (by rw[<-hbd2];exact C.pl _ hS) (lRf _)
        have z3':0<=z:=z3 (by rw[<-hbd2];exact C.prc _ hpn)
        have hido7:ae (nms G) t<(on.set (ae (nms G) t) true).length:=by rw[List.length_set];exact hido
        have hsto7:=aE L7.ho (o:=ae (nms G) t) (vs:=[.bool false]) rfl (mH false hido7) (by simp)
        have hown7:=av L7.ho (((on.set (ae (nms G) t) true).set (ae (nms G) t) false).map .bool)
        rw[zF hsn] at hsto7 hown7
        have xp7:ExtS (Two ob lg) h7 (h7.put ob (.cells ⟨on.map .bool,4,0,0,false⟩)):=(Ext.refl h7).toS.put (.inr (.inl rfl)) _
        have xo7:ExtS (aR ob) h7 (h7.put ob (.cells ⟨on.map .bool,4,0,0,false⟩)):=(Ext.refl h7).toS.put (.inr (show aR ob ob from rfl)) _
        obtain ⟨lm7,r1,r2⟩:=L7.hlm
        have L8:=L7.step C (on2:=on) xp7 hown7 L.hol ⟨lm7,r1.extS xo7 (fun c=>C.ol (show lg=ob from c).symm),r2⟩
        generalize hh8:h7.put ob (.cells ⟨on.map .bool,4,0,0,false⟩)=h8 at hsto7 xp7 xo7 L8 hown7
        obtain ⟨lm8,s1,s2⟩:=L8.hlm
        obtain ⟨oo,lm9,u1,u2,u3⟩:=s1.update (ae (nms G) t) (.int .i64 z)
        have x9:ExtS (Two ob lg) h8 (h8.put lg oo):=(Ext.refl h8).toS.put (.inr (.inr rfl)) _
        have xl9:ExtS (aR lg) h8 (h8.put lg oo):=(Ext.refl h8).toS.put (.inr (show aR lg lg from rfl)) _
        have L9:=L8.step C (on2:=on) x9 (aJ xl9 L8.ho (fun c=>C.ol c)) L.hol ⟨lm9,u2,fun k v hm=>by
         rcases u3 _ hm with hm|e
         ·exact s2 k v hm
         ·simp only[Prod.mk.injEq] at e
          obtain ⟨rfl,rfl⟩:=e
          exact ⟨z,rfl,z3',z2,by rw[hbd2];exact z4⟩⟩
        have mk0:h3.load ⟨bk,0,none⟩=some (.slice (some ⟨gb,go,none⟩) G.length gc):=by rw[aa L3.hbk.own];rfl
        simp -dsimp only[go_sem,g0,g2,g3,m0 h2 L2.hm,m7 h2 L2.hm,mk1,lkb,lkl,aa hP,bM hidG,aa L2.hp,aa L2.ho,hgetp,hgeto,Bool.not_true,hsto,m0 h3 L3.hm,mk0,eQ hidG,az (n:=3) L3.rom hat2 rfl]
        refine ⟨_,h7,hs7,?_⟩
        simp -dsimp only[go_sem,g0,g2,g3,bM hidG,hsto7,m7 h8 L8.hm,u1,hr]
        exact ⟨z,rfl,z1,z2,fun _=>z3',ub z (by rw[hbd2];exact z4),((xS.trans xp).trans (X7.trans xp7)).trans x9,L9⟩
 ·have k1:decide (d.data.toList=[105,115])=false:=dcF (by rw[hd];decide)
  have k2:decide (d.data.toList=[110,111,116,104,105,110,103])=true:=dcT hd
  simp -dsimp only[go_sem,aa hP,k1,k2,hr]
  exact ⟨0,rfl,by decide,by decide,fun _=>by decide,fun w _ h=>by rw[(ga hd w).1 h];simp,xS,L2⟩
 ·have k1:decide (d.data.toList=[105,115])=false:=dcF (by rw[hd];decide)
  have k2:decide (d.data.toList=[110,111,116,104,105,110,103])=false:=dcF (by rw[hd];decide)
  have k3:decide (d.data.toList=[114,117,108,101])=false:=dcF (by rw[hd];decide)
  have k4:decide (d.data.toList=[115,101,113])=true:=dcT hd
  have c3:¬d.data.toList=[114,117,108,101]:=by rw[hd];decide
  have prBd:prB (nms G) pr ⟨d,t,l⟩=i7 (nms G) pr l:=by rw[prB,if_neg c3,if_pos hd]
  simp -dsimp only[go_sem,g0,g2,g3,aa hP,k1,k2,k3,k4]
  refine qq C (pb:=h.next) (bound:=bound) (d:=d) (t:=t) (l:=l) (c:=c) hnk hnp hlb hA hat hk hbd (by simp -dsimp only[go_sem,hn']) L2 (by simp -dsimp only[go_sem,g0]) (by simp -dsimp only[go_sem,g2]) (by simp -dsimp only[go_sem,g3]) (by simp -dsimp only[go_sem];try rfl) (by simp -dsimp only[go_sem]) (by simp -dsimp only[go_sem]) (by simp -dsimp only[go_sem]) (by simp -dsimp only[go_sem];try rfl) (fun a1 h3 hn3 X3 L3 hall p0 p2 p3 p5 p13 => ?_) (fun a1 h3 hn3 X3 L3 hex p8 => ?_)
  ·obtain ⟨lm,q1,_⟩:=L2.hlm
   have hP3:=ni X3 q1 hP npo
   simp -dsimp only[go_sem,p0,p2,p3,p5,p13,aa hP3]
   refine qr C (pb:=h.next) (bound:=bound) (d:=d) (t:=t) (l:=l) (c:=c) ih hall hnk hnp hlb hA hat hk hbd (by simp -dsimp only[go_sem,hn3]) L3 (by simp -dsimp only[go_sem,p0]) (by simp -dsimp only[go_sem,p2]) (by simp -dsimp only[go_sem,p3]) (by simp -dsimp only[go_sem,p5]) (by simp -dsimp only[go_sem]) (by simp -dsimp only[go_sem]) (by simp -dsimp only[go_sem]) (by simp -dsimp only[go_sem,p13]) (fun a2 h4 z hn4 X4 L4 z1 z2 z3 p13' => ?_)
   simp -dsimp only[go_sem,p13',hr]
   exact ⟨z,rfl,by omega,z2,fun _=>z1,fun w hw h=>z3 w hw ((kh hd w).1 h),(xS.trans X3).trans X4,L4⟩
  ·simp -dsimp only[go_sem,p8,hr]
   have no:¬prB (nms G) pr ⟨d,t,l⟩=true:=fun c=>by
    rw[prBd,fK] at c
    obtain ⟨q,h1,h2⟩:=hex
    rw[c q h1] at h2
    cases h2
   exact ⟨-1,rfl,by decide,by decide,fun c=>absurd c no,fun w _ h=>absurd (C.prs _ w hpp h) no,xS.trans X3,L3⟩
 ·have k1:decide (d.data.toList=[105,115])=false:=dcF (by rw[hd];decide)
  have k2:decide (d.data.toList=[110,111,116,104,105,110,103])=false:=dcF (by rw[hd];decide)
  have k3:decide (d.data.toList=[114,117,108,101])=false:=dcF (by rw[hd];decide)
  have k4:decide (d.data.toList=[115,101,113])=false:=dcF (by rw[hd];decide)
  have k5:decide (d.data.toList=[111,114])=false:=dcF (by rw[hd];decide)
  have k6:decide (d.data.toList=[109,97,110,121])=true:=dcT hd
  subst hx1
  have hpi:[x][0]? = some x:=rfl
  obtain ⟨Av1,c1',hcs⟩:=(hk 0 _ hpi).shape
  have hat':=hat 0 _ hpi
  have hkid:=hk 0 _ hpi
  rw[hcs] at hat' hkid
  have hAv:=hA (by simp)
  subst hAv
  obtain ⟨_,h6,hs6,rfl,hx6⟩:=rH _ x (lSs _) h2 _ L2.rom L2.bn hkid (hnk 0 _ hpi) L2.hp C.prl L2.hm L2.hbk
  have L6:=L2.ext hx6
  have i0:ap Tryz.prog 46 (.slice (some ⟨b,o,none⟩) 1 c) (.int .i64 0)=some (.pointer (some ⟨b,o+0*3,none⟩)):=oz (i:=0) (by omega)
  have hld:=az (n:=3) L2.rom hat' rfl
  simp -dsimp only[go_sem,g0,g2,g3,aa hP,k1,k2,k3,k4,k5,k6,List.length_singleton,i0,hld]
  refine ⟨_,h6,hs6,?_⟩
  cases hpx:prB (nms G) pr x with
  | true =>
    simp -dsimp only[go_sem,hr]
    exact ⟨1152921504606846976,rfl,by decide,by decide,fun _=>by decide,UB.big (by have:=C.le;omega),xS.trans hx6.toS,L6⟩
  | false =>
    simp -dsimp only[go_sem,hr]
    refine ⟨0,rfl,by decide,by decide,fun _=>by decide,fun w _ h => ?_,xS.trans hx6.toS,L6⟩
    rcases (eL hd w).1 h with rfl|⟨u,v,_,_,h1,_⟩
    ·simp
    ·have:=C.prs x u (hnp 0 _ hpi) h1
     rw[hpx] at this
     cases this
 ·rcases hd with hd|hd|⟨hd,hl1⟩
  ·have hd:d.data.toList=[111,114]:=hd
   have k1:decide (d.data.toList=[105,115])=false:=dcF (by rw[hd];decide)
   have k2:decide (d.data.toList=[110,111,116,104,105,110,103])=false:=dcF (by rw[hd];decide)
   have k3:decide (d.data.toList=[114,117,108,101])=false:=dcF (by rw[hd];decide)
   have k4:decide (d.data.toList=[115,101,113])=false:=dcF (by rw[hd];decide)
   have k5:decide (d.data.toList=[111,114])=true:=dcT hd
   have c3:¬d.data.toList=[114,117,108,101]:=by rw[hd];decide
   have c4:¬d.data.toList=[115,101,113]:=by rw[hd];decide
   have prBd:prB (nms G) pr ⟨d,t,l⟩=o4 (nms G) pr l:=by rw[prB,if_neg c3,if_neg c4,if_pos hd]
   simp -dsimp only[go_sem,g0,g2,g3,aa hP,k1,k2,k3,k4,k5]
   refine BD C (pb:=h.next) (bound:=bound) (d:=d) (t:=t) (l:=l) (c:=c) ih hnk hnp hlb hA hat hk hbd (by simp -dsimp only[go_sem,hn']) L2 (by simp -dsimp only[go_sem,g0]) (by simp -dsimp only[go_sem,g2]) (by simp -dsimp only[go_sem,g3]) (by simp -dsimp only[go_sem];try rfl) (by simp -dsimp only[go_sem]) (by simp -dsimp only[go_sem]) (by simp -dsimp only[go_sem]) (by simp -dsimp only[go_sem];try rfl) (fun a1 h3 z hn3 X3 L3 z1 z2 z3 z4 p18 => ?_)
   simp -dsimp only[go_sem,p18,hr]
   refine ⟨z,rfl,z1,z2,fun q => ?_,fun w hw h => ?_,xS.trans X3,L3⟩
   ·rw[prBd,fL] at q
    obtain ⟨x,h1,h2⟩:=q
    exact z3 x h1 h2
   ·obtain ⟨x,h1,h2⟩:=(qk hd w).1 h
    exact z4 x h1 w hw h2
  ·have hd:d.data.toList=[111,112,116]:=hd
   have k1:decide (d.data.toList=[105,115])=false:=dcF (by rw[hd];decide)
   have k2:decide (d.data.toList=[110,111,116,104,105,110,103])=false:=dcF (by rw[hd];decide)
   have k3:decide (d.data.toList=[114,117,108,101])=false:=dcF (by rw[hd];decide)
   have k4:decide (d.data.toList=[115,101,113])=false:=dcF (by rw[hd];decide)
   have k5:decide (d.data.toList=[111,114])=false:=dcF (by rw[hd];decide)
   have k6:decide (d.data.toList=[109,97,110,121])=false:=dcF (by rw[hd];decide)
   obtain ⟨x,hx1⟩:∃x,l=[x]:=by
    unfold aU at hko
    rw[if_neg (by rw[hd];decide),if_neg (by rw[hd];decide)] at hko
    split at hko
    ·cases hko
    ·rw[if_neg (by rw[hd];decide),if_neg (by rw[hd];decide),if_pos (.inr (.inl hd))] at hko
     exact List.length_eq_one_iff.1 (dcO hko)
   subst hx1
   have hpi:[x][0]? = some x:=rfl
   obtain ⟨Av1,c1',hcs⟩:=(hk 0 _ hpi).shape
   have hat':=hat 0 _ hpi
   have hkid:=hk 0 _ hpi
   rw[hcs] at hat' hkid
   have hAv:=hA (by simp)
   subst hAv
   obtain ⟨_,h6,hs6,z,rfl,z1,z2,z3,z4,X6,L6⟩:=ih 0 _ hpi h2 _ on L2 hkid (hnk 0 _ hpi) (hnp 0 _ hpi) hbd
   have i0:ap Tryz.prog 46 (.slice (some ⟨b,o,none⟩) 1 c) (.int .i64 0)=some (.pointer (some ⟨b,o+0*3,none⟩)):=oz (i:=0) (by omega)
   have hld:=az (n:=3) L2.rom hat' rfl
   simp -dsimp only[go_sem,g0,g2,g3,aa hP,k1,k2,k3,k4,k5,k6,List.length_singleton,i0,hld]
   refine ⟨_,h6,hs6,?_⟩
   have hm:mm true 0 z=if 0<z then z else 0:=by
    simp only[mm,dH]
    split<;>rename_i q<;>simp only[decide_eq_true_iff,decide_eq_false_iff_not] at q<;>simp[q]
   simp -dsimp only[go_sem,d6,hr]
   refine ⟨mm true 0 z,rfl,by rw[hm];split<;>omega,by rw[hm];split<;>omega,fun _=>by rw[hm];split<;>omega,fun w hw h => ?_,xS.trans X6,L6⟩
   rw[hm]
   rcases (lS hd w).1 h with rfl|⟨y,hy,h1⟩
   ·simp
    split<;>omega
   ·rw[List.mem_singleton] at hy
    subst hy
    have:=z4 w hw h1
    split<;>omega
  ·have hd:d.data.toList=[115,101,113]:=hd
   have k1:decide (d.data.toList=[105,115])=false:=dcF (by rw[hd];decide)
   have k2:decide (d.data.toList=[110,111,116,104,105,110,103])=false:=dcF (by rw[hd];decide)
   have k3:decide (d.data.toList=[114,117,108,101])=false:=dcF (by rw[hd];decide)
   have k4:decide (d.data.toList=[115,101,113])=true:=dcT hd
   have c3:¬d.data.toList=[114,117,108,101]:=by rw[hd];decide
   have prBd:prB (nms G) pr ⟨d,t,l⟩=i7 (nms G) pr l:=by rw[prB,if_neg c3,if_pos hd]
   simp -dsimp only[go_sem,g0,g2,g3,aa hP,k1,k2,k3,k4]
   refine qq C (pb:=h.next) (bound:=bound) (d:=d) (t:=t) (l:=l) (c:=c) hnk hnp hlb hA hat hk hbd (by simp -dsimp only[go_sem,hn']) L2 (by simp -dsimp only[go_sem,g0]) (by simp -dsimp only[go_sem,g2]) (by simp -dsimp only[go_sem,g3]) (by simp -dsimp only[go_sem];try rfl) (by simp -dsimp only[go_sem]) (by simp -dsimp only[go_sem]) (by simp -dsimp only[go_sem]) (by simp -dsimp only[go_sem];try rfl) (fun a1 h3 hn3 X3 L3 hall p0 p2 p3 p5 p13 => ?_) (fun a1 h3 hn3 X3 L3 hex p8 => ?_)
   ·obtain ⟨lm,q1,_⟩:=L2.hlm
    have hP3:=ni X3 q1 hP npo
    simp -dsimp only[go_sem,p0,p2,p3,p5,p13,aa hP3]
    refine qr C (pb:=h.next) (bound:=bound) (d:=d) (t:=t) (l:=l) (c:=c) ih hall hnk hnp hlb hA hat hk hbd (by simp -dsimp only[go_sem,hn3]) L3 (by simp -dsimp only[go_sem,p0]) (by simp -dsimp only[go_sem,p2]) (by simp -dsimp only[go_sem,p3]) (by simp -dsimp only[go_sem,p5]) (by simp -dsimp only[go_sem]) (by simp -dsimp only[go_sem]) (by simp -dsimp only[go_sem]) (by simp -dsimp only[go_sem,p13]) (fun a2 h4 z hn4 X4 L4 z1 z2 z3 p13' => ?_)
    simp -dsimp only[go_sem,p13',hr]
    exact ⟨z,rfl,by omega,z2,fun _=>z1,fun w hw h=>z3 w hw ((kh hd w).1 h),(xS.trans X3).trans X4,L4⟩
   ·simp -dsimp only[go_sem,p8,hr]
    have no:¬prB (nms G) pr ⟨d,t,l⟩=true:=fun c=>by
     rw[prBd,fK] at c
     obtain ⟨q,h1,h2⟩:=hex
     rw[c q h1] at h2
     cases h2
    exact ⟨-1,rfl,by decide,by decide,fun c=>absurd c no,fun w _ h=>absurd (C.prs _ w hpp h) no,xS.trans X3,L3⟩
end
section
variable {r:Ro} {G:List ar} {Gv:Option Addr} {gc tb mb bk m eb:Nat} {em:List Bool} {lv rv x3 x4 x5 x6 x7:Value}
def leP (pr pr2:List Bool):Prop:=∀i,pr.getD i false=true->pr2.getD i false=true
theorem te {nm:List ByteArray} {pr pr2:List Bool} (h:leP pr pr2):∀(n:Nat) (p:ad),SizeOf.sizeOf p<n->prB nm pr p=true->prB nm pr2 p=true:=by
 intro n
 induction n with
 | zero=>intro p h;exact absurd h (lNz _)
 | succ n ih =>
   rintro ⟨d,t,l⟩ hn hp
   have hl:∀x∈l,SizeOf.sizeOf x<n:=fun x hx=>by
    have:=List.sizeOf_lt_of_mem hx
    simp only[ad.mk.sizeOf_spec] at hn
    omega
   rw[prB] at hp ⊢
   by_cases c1:d.data.toList=[114,117,108,101]
   ·rw[if_pos c1] at hp ⊢
    exact h _ hp
   rw[if_neg c1] at hp ⊢
   by_cases c2:d.data.toList=[115,101,113]
   ·rw[if_pos c2] at hp ⊢
    rw[fK] at hp ⊢
    exact fun q hq=>ih q (hl q hq) (hp q hq)
   rw[if_neg c2] at hp ⊢
   by_cases c3:d.data.toList=[111,114]
   ·rw[if_pos c3] at hp ⊢
    rw[fL] at hp ⊢
    obtain ⟨q,hq,h1⟩:=hp
    exact ⟨q,hq,ih q (hl q hq) h1⟩
   rw[if_neg c3]
def PrC (G:List ar) (pr:List Bool):Prop:=∀j,pr.getD j false=true->prB (nms G) pr (aZ G j)=true
def qt (a a1:Ev.A):Prop:=a1.get 1=a.get 1/\a1.get 2=a.get 2/\a1.get 3=a.get 3/\a1.get 8=a.get 8/\a1.get 9=a.get 9/\a1.get 11=a.get 11/\a1.get 14=a.get 14
theorem PrC.set {pr:List Bool} {i:Nat} (h:PrC G pr) (hb:prB (nms G) pr (aZ G i)=true):PrC G (pr.set i true):=by
 have hle:leP pr (pr.set i true):=fun j hj=>getD_set_true hj
 intro j hj
 by_cases e:j=i
 ·subst e
  exact te hle _ _ (lSs _) hb
 ·refine te hle _ _ (lSs _) (h j ?_)
  simp only[List.getD,List.getElem?_set] at hj ⊢
  rwa[if_neg (fun c=>e c.symm)] at hj
theorem xq {gb go:Nat} {gcss:Nat->List Value} (RR:bd r G Gv gc gb go gcss) (hnG:∀(i:Nat) (x:ar),G[i]? = some x->ay (nms G) x.body=true) (hmt:mb≠tb) (hbt:bk≠tb) (hmt2:m≠tb) (het:eb≠tb)
  {pr:List Bool} {a:Ev.A} {h8:Hp} {Q:Ex->Ev.A->Hp->Prop} (hna:a.n=153) (hrom:h8.rom=r) (hb:h8.base<=h8.next) (hS:h8.own tb 4 (pr.map .bool)) (hsl:pr.length=G.length) (hpc:PrC G pr) (hM:h8.own mb 73 (cL bk lv rv x3 x4 x5 x6 x7)) (hBk:Book h8 bk m eb (.slice Gv G.length gc) (nms G) em)
  (g11:a.get 11=.pointer (some ⟨mb,0,none⟩)) (g14:a.get 14=.slice (some ⟨tb,0,none⟩) G.length G.length) (g15:a.get 15=.bool false) (g73:a.get 73=.slice Gv G.length gc) (g74:a.get 74=.int .i64 (G.length:Int)) (g75:a.get 75=.int .i64 0)
  (hq:∀(a1:Ev.A) (h9:Hp) (pr9:List Bool) (again:Bool),a1.n=153->ExtS (aR tb) h8 h9->h9.own tb 4 (pr9.map .bool)->pr9.length=G.length->PrC G pr9->(again=false->∀k,k<G.length->prB (nms G) pr9 (aZ G k)=true->pr9.getD k false=true)->(again=true->cf pr9<cf pr)->qt a a1->a1.get 15=.bool again->Q (.exit 4) a1 h9) :
  Th Tryz.prog (aw Tryz.f8 [1,1,1,1,1,1,1,0,1,0,0,1,0,1,1,0]) a h8 Q ⟨⟩ ⟨⟩:=by
 simp only[aw,nav,Tryz.f8]
 refine au (n:=153) (by kernel_rfl) (fun m' a' h'=>∃(i:Nat) (pr':List Bool) (z:Bool),i<=G.length/\m'=G.length - i/\ExtS (aR tb) h8 h'/\h'.own tb 4 (pr'.map .bool)/\pr'.length=G.length/\PrC G pr'/\(z=false->pr'=pr/\∀k,k<i->prB (nms G) pr' (aZ G k)=true->pr'.getD k false=true)/\(z=true->cf pr'<cf pr)/\qt a a' /\
   a'.get 15=.bool z/\a'.get 73=.slice Gv G.length gc/\a'.get 74=.int .i64 (G.length:Int)/\a'.get 75=.int .i64 (i:Int)) ?_ _ _ _ hna
  ⟨0,pr,false,lZr _,rfl,(Ext.refl _).toS,hS,hsl,hpc,fun _=>⟨rfl,fun k c=>absurd c (lNz _)⟩,fun c=>(by cases c),⟨rfl,rfl,rfl,rfl,rfl,rfl,rfl⟩,g15,g73,g74,g75⟩
 rintro m' a' h' hn' ⟨i,pr',z,hi,rfl,hx,hS',hsl',hpc',hz0,hz1,X,e15,e73,e74,e75⟩
 by_cases hlt:i<G.length
 rotate_left
 ·have c1:decide ((i:Int)<(G.length:Int))=false:=dcF (by omega)
  simp -dsimp only[go_sem,e15,e73,e74,e75,c1]
  refine hq _ _ pr' z (by simp -dsimp only[go_sem,hn']) hx hS' hsl' hpc' (fun c k hk=>(hz0 c).2 k (by omega)) hz1 ?_ (by simp -dsimp only[go_sem,e15])
  unfold qt at X ⊢
  simp -dsimp only[go_sem,X]
 have c1:decide ((i:Int)<(G.length:Int))=true:=dcT (by omega)
 obtain ⟨e1,e2,e3,e8,e9,e11,e14⟩:=X
 have hrom':h'.rom=r:=bG hx hrom
 have hb':=hx.bn hb
 have hM':=aJ hx hM hmt
 have hBk':=hBk.extS hx hbt hmt2 het
 have hids:i<pr'.length:=by rw[hsl'];exact hlt
 have hget:(pr'.map Value.bool)[i]? = some (.bool (pr'.getD i false)):=by
  simp only[List.getElem?_map,List.getD_eq_getElem?_getD,gEl hids,Option.map_some,Option.getD_some]
 have hpi:G[i]? = some G[i]:=gEl hlt
 have hbd:=jC hpi
 obtain ⟨Av1,c1',hcs⟩:=(RR.hk _ _ hpi).shape
 have hat':=RR.hat _ _ hpi
 have hkid:=RR.hk _ _ hpi
 rw[hcs] at hat' hkid
 have hAv:=RR.hA (aO hlt)
 subst hAv
 have hx0:=Ext.new h' (ak.cells ⟨[.string ⟨#[]⟩,.string ⟨#[]⟩,.string ⟨#[]⟩,.slice none 0 0],50,0,0,false⟩)
 have hw0:=an hb' 50 [.string ⟨#[]⟩,.string ⟨#[]⟩,.string ⟨#[]⟩,.slice none 0 0]
 have hst:=aE (o:=0) (vs:=[.string G[i].name,.string G[i].body.d,.string G[i].body.t,.slice Av1 G[i].body.l.length c1']) (c1:=[.string G[i].name,.string G[i].body.d,.string G[i].body.t,.slice Av1 G[i].body.l.length c1']) hw0 rfl rfl (by simp)
 have hx1:=hx0.put (b:=h'.next) (lRf _) (ak.cells ⟨[.string G[i].name,.string G[i].body.d,.string G[i].body.t,.slice Av1 G[i].body.l.length c1'],50,0,0,false⟩)
 have hP1:=av hw0 [.string G[i].name,.string G[i].body.d,.string G[i].body.t,.slice Av1 G[i].body.l.length c1']
 generalize hhA:(h'.newH (ak.cells ⟨[.string ⟨#[]⟩,.string ⟨#[]⟩,.string ⟨#[]⟩,.slice none 0 0],50,0,0,false⟩)).put h'.next (ak.cells ⟨[.string G[i].name,.string G[i].body.d,.string G[i].body.t,.slice Av1 G[i].body.l.length c1'],50,0,0,false⟩)=hA1 at hst hx1 hP1
 have hxA:=hx.trans (hx1.toS (S:=aR tb))
 have hSA:=aj hx1 hS'
 have hws:=ah hlt (by have:=RR.hb;omega:G.length<=9223372036854775807)
 cases hsn:pr'.getD i false with
 | true =>
   rw[hsn] at hget
   simp -dsimp only[go_sem,e15,e73,e74,e75,c1,eQ hlt,az (n:=4) hrom' hat' rfl,hst,e11,e14,g11,g14,bM hlt,aa hSA,hget,Bool.not_true,hws]
   refine ⟨G.length - (i+1),by omega,i+1,pr',z,hlt,rfl,hxA,hSA,hsl',hpc',fun c=>⟨(hz0 c).1,fun k hk hp => ?_⟩,hz1,by unfold qt;simp -dsimp only[go_sem,e1,e2,e3,e8,e9,e11,e14],by first|rfl|simp⟩
   by_cases e:k=i
   ·rw[e];exact hsn
   ·exact (hz0 c).2 k (by omega) hp
 | false =>
   rw[hsn] at hget
   obtain ⟨_,h6,hs6,rfl,hx6⟩:=rH (pr:=pr') _ G[i].body (lSs _) hA1 _ (bG hxA hrom) (hxA.bn hb) hkid (hnG _ _ hpi) hSA hsl' (aj hx1 hM') (hBk'.ext hx1)
   have hxB:=hxA.trans (hx6.toS (S:=aR tb))
   have hSB:=aj hx6 hSA
   have hl3:hA1.loads ⟨h'.next,1,none⟩ 3=some [.string G[i].body.d,.string G[i].body.t,.slice Av1 G[i].body.l.length c1']:=by rw[af hP1];rfl
   cases hpb:prB (nms G) pr' G[i].body with
   | false =>
     rw[hpb] at hs6
     simp -dsimp only[go_sem,e15,e73,e74,e75,c1,eQ hlt,az (n:=4) hrom' hat' rfl,hst,e11,e14,g11,g14,bM hlt,aa hSA,hget,Bool.not_false,hl3]
     refine ⟨_,h6,hs6,?_⟩
     simp -dsimp only[go_sem,e15,e73,e74,e75,hws]
     refine ⟨G.length - (i+1),by omega,i+1,pr',z,hlt,rfl,hxB,hSB,hsl',hpc',fun c=>⟨(hz0 c).1,fun k hk hp => ?_⟩,hz1,by unfold qt;simp -dsimp only[go_sem,e1,e2,e3,e8,e9,e11,e14],by first|rfl|simp⟩
     by_cases e:k=i
     ·rw[e,hbd,hpb] at hp;cases hp
     ·exact (hz0 c).2 k (by omega) hp
   | true =>
     rw[hpb] at hs6
     have hsto:=aE hSB (o:=i) (vs:=[.bool true]) rfl (dP hids) (by simp)
     have hxC:=hxB.put (b:=tb) (.inr (show aR tb tb from rfl)) (.cells ⟨(pr'.set i true).map .bool,4,0,0,false⟩)
     have hcf:cf (pr'.set i true)<cf pr':=gN hsn hids
     simp -dsimp only[go_sem,e15,e73,e74,e75,c1,eQ hlt,az (n:=4) hrom' hat' rfl,hst,e11,e14,g11,g14,bM hlt,aa hSA,hget,Bool.not_false,hl3]
     refine ⟨_,h6,hs6,?_⟩
     simp -dsimp only[go_sem,e15,e73,e74,e75,e14,g14,bM hlt,hsto,hws]
     refine ⟨G.length - (i+1),by omega,i+1,pr'.set i true,true,hlt,rfl,hxC,av hSB _,by rw[List.length_set];exact hsl',hpc'.set (by rw[hbd];exact hpb),fun c=>(by cases c),fun _ => ?_,by unfold qt;simp -dsimp only[go_sem,e1,e2,e3,e8,e9,e11,e14],by first|rfl|simp⟩
     cases z with
     | false=>rw[(hz0 rfl).1] at hcf;rw[(hz0 rfl).1];exact hcf
     | true=>have:=hz1 rfl;omega
end
section
variable {r:Ro} {G:List ar} {Gv:Option Addr} {gc tb gp mb bk m eb:Nat} {em:List Bool} {lv rv x3 x4 x5 x6 x7:Value}
def vL (a a1:Ev.A):Prop:=a1.get 1=a.get 1/\a1.get 2=a.get 2/\a1.get 3=a.get 3/\a1.get 8=a.get 8/\a1.get 9=a.get 9/\a1.get 11=a.get 11/\a1.get 14=a.get 14
theorem zG {gb go:Nat} {gcss:Nat->List Value} (RR:bd r G Gv gc gb go gcss) (hnG:∀(i:Nat) (x:ar),G[i]? = some x->ay (nms G) x.body=true) (hmt:mb≠tb) (hbt:bk≠tb) (hmt2:m≠tb) (het:eb≠tb) (hgt:gp≠tb)
  {pr:List Bool} {a:Ev.A} {h8:Hp} {Q:Ex->Ev.A->Hp->Prop} (hna:a.n=153) (hrom:h8.rom=r) (hb:h8.base<=h8.next) (hS:h8.own tb 4 (pr.map .bool)) (hsl:pr.length=G.length) (hpc:PrC G pr) (hM:h8.own mb 73 (cL bk lv rv x3 x4 x5 x6 x7)) (hBk:Book h8 bk m eb (.slice Gv G.length gc) (nms G) em) (hG:h8.own gp 24 [.slice Gv G.length gc])
  (g3:a.get 3=.pointer (some ⟨gp,0,none⟩)) (g11:a.get 11=.pointer (some ⟨mb,0,none⟩)) (g14:a.get 14=.slice (some ⟨tb,0,none⟩) G.length G.length) (g15:a.get 15=.bool true)
  (hq:∀(a1:Ev.A) (h9:Hp) (pr9:List Bool),a1.n=153->ExtS (aR tb) h8 h9->h9.own tb 4 (pr9.map .bool)->pr9.length=G.length->PrC G pr9->(∀k,k<G.length->prB (nms G) pr9 (aZ G k)=true->pr9.getD k false=true)->vL a a1->Q (.exit 2) a1 h9) :
  Th Tryz.prog (aw Tryz.f8 [1,1,1,1,1,1,1,0,1,0]) a h8 Q ⟨⟩ ⟨⟩:=by
 simp only[aw,nav,Tryz.f8]
 refine au (n:=153) (by kernel_rfl) (fun m' a' h'=>∃(pr':List Bool) (z:Bool),m'=(if z=true then cf pr'+1 else 0)/\ExtS (aR tb) h8 h'/\h'.own tb 4 (pr'.map .bool)/\pr'.length=G.length/\PrC G pr'/\(z=false->∀k,k<G.length->prB (nms G) pr' (aZ G k)=true->pr'.getD k false=true)/\vL a a'/\a'.get 15=.bool z) ?_ _ _ _ hna
  ⟨pr,true,rfl,(Ext.refl _).toS,hS,hsl,hpc,fun c=>(by cases c),⟨rfl,rfl,rfl,rfl,rfl,rfl,rfl⟩,g15⟩
 rintro m' a' h' hn' ⟨pr',z,rfl,hx,hS',hsl',hpc',hz,X,e15⟩
 cases z with
 | false =>
   simp -dsimp only[go_sem,e15]
   refine hq _ _ pr' (by simp -dsimp only[go_sem,hn']) hx hS' hsl' hpc' (hz rfl) ?_
   unfold vL at X ⊢
   simp -dsimp only[go_sem,X]
 | true =>
   obtain ⟨e1,e2,e3,e8,e9,e11,e14⟩:=X
   have hrom':h'.rom=r:=bG hx hrom
   have hb':=hx.bn hb
   have hM':=aJ hx hM hmt
   have hBk':=hBk.extS hx hbt hmt2 het
   have hG':=aJ hx hG hgt
   simp -dsimp only[go_sem,e15,e3,g3,aa hG']
   refine xq RR hnG hmt hbt hmt2 het (pr:=pr') (by simp -dsimp only[go_sem,hn']) hrom' hb' hS' hsl' hpc' hM' hBk' (by simp -dsimp only[go_sem,e11,g11]) (by simp -dsimp only[go_sem,e14,g14]) (by simp -dsimp only[go_sem]) (by simp -dsimp only[go_sem]) (by simp -dsimp only[go_sem]) (by simp -dsimp only[go_sem]) (fun a1 h9 pr9 again hn1 X9 S9 l9 pc9 cl9 cf9 Y p15 => ?_)
   obtain ⟨y1,y2,y3,y8,y9,y11,y14⟩:=Y
   simp -dsimp only[go_sem,p15]
   refine ⟨if again=true then cf pr9+1 else 0,?_,pr9,again,rfl,hx.trans X9,S9,l9,pc9,cl9,?_,rfl⟩
   ·cases again with
    | true=>have:=cf9 rfl;simp;exact this
    | false=>simp
   ·unfold vL
    simp -dsimp only[go_sem,y1,y2,y3,y8,y9,y11,y14,e1,e2,e3,e8,e9,e11,e14]
end
section
variable {h h1 h2:Hp} {B F B' F' B2 F2 BS FS B8 F8:Nat->Prop} {R:ByteArray->Tx->Prop} {tbl:Tbl} {sm tm n0 f0:Nat} {hS h8:Hp}
theorem xu {v vx:Value} {wx:Tx} {ps:Prs} (k:OwnA h n0 f0 v ps B F) (hp:PrK h B F ps) (hx:TxK h B F vx wx) (hB:∀b,B b->b<h.next) (hF:∀f,F f->f≠0/\f<h.nfam) (hb:h.base<=h.next) (hn0:n0<=h.next) (hf0:f0<=h.nfam) (hwx:wx.length<=100000) (hsz:ps.length+1<=1000000) :
  ∃w2 h2 v' h4 B' F',Snd Tryz.prog 29 [vx] h w2 h2/\bt Tryz.prog (h2.newH (.cells ⟨[w2],34,0,0,false⟩)) [27,27] [v,.slice (some ⟨h2.next,0,none⟩) 1 1]=some (v',h4) /\
   OwnA h4 n0 f0 v' (ps++[(w2,wx)]) B' F'/\PrK h4 B' F' (ps++[(w2,wx)])/\AppC h n0 f0 B F h4 B' F'/\∃A,w2=.slice A wx.length wx.length:=by
 obtain ⟨w2,h2,hs1,hx2,o2⟩:=vI hx.toV hb hwx
 have hb2:h2.base<=h2.next:=by rw[hx2.base];exact lTr hb hx2.next
 have hx3:=hx2.trans (Ext.new h2 (.cells ⟨[w2],34,0,0,false⟩))
 have hw3:=an hb2 34 [w2]
 have hx23:=Ext.new h2 (.cells ⟨[w2],34,0,0,false⟩)
 have hb3:(h2.newH (.cells ⟨[w2],34,0,0,false⟩)).base<=(h2.newH (.cells ⟨[w2],34,0,0,false⟩)).next:=Nat.le_succ_of_le hb2
 generalize hh3:h2.newH (.cells ⟨[w2],34,0,0,false⟩)=h3 at *
 have ht:TxK h2 B F w2 wx:=uG o2 hB hF
 have hone:[w2].all oneCell=true:=by
  have:=ht.toV.cell
  simpa using this
 obtain ⟨v',h4,B',F',p1,p2,p3⟩:=Ct (t:=wx) (OwnA.ext hx3 k) (rq (n:=1) (c:=1) hw3 rfl) hone hb3 (lTr hn0 hx3.next) (lTr hf0 hx3.nfam) hsz
 refine ⟨w2,h2,v',h4,B',F',hs1,by rw[hh3];exact p1,p2,?_,(AppC.ofExt hx3 hn0).trans p3,?_⟩
 ·refine PrK.app ((hp.keep (bT hx3 |>.wide (fun _ _ c=>c.elim) (fun _ c=>c.elim))).step p3.keep p3.wide) (fun q hq => ?_)
  rw[List.mem_singleton] at hq
  subst hq
  exact (ht.keep (bT hx23 |>.wide (fun _ _ c=>c.elim) (fun _ c=>c.elim))).step p3.keep p3.wide
 ·obtain ⟨A,e,_⟩:=o2.len
  exact ⟨A,by rw[e,cp]⟩
def vM (a a1:Ev.A):Prop:=a1.get 1=a.get 1/\a1.get 2=a.get 2/\a1.get 8=a.get 8/\a1.get 11=a.get 11/\a1.get 19=a.get 19
theorem tf {v8 vys:Value} {ps8 ys:Prs} (hbS:hS.base<=hS.next) (L:LSt R tbl sm tm hS BS FS h8 B8 F8 v8 ps8) (hys:LK h8 B8 F8 vys ys) (hpy:PrK h8 B8 F8 ys) (hwy:∀p∈ys,p.2.length<=100000) (hsz:ps8.length+ys.length<=1000000)
  {a:Ev.A} {Q:Ex->Ev.A->Hp->Prop} (hna:a.n=153) (g18:a.get 18=v8) (g131:a.get 131=vys) (g132:a.get 132=.int .i64 (ys.length:Int)) (g133:a.get 133=.int .i64 0)
  (hq:∀(a1:Ev.A) (h9:Hp) (B9 F9:Nat->Prop) (v9:Value) (qs:Prs),a1.n=153->LSt R tbl sm tm hS BS FS h9 B9 F9 v9 (ps8++qs)->aK qs=aK ys->vM a a1->a1.get 18=v9->Q (.exit 8) a1 h9) :
  Th Tryz.prog (aw Tryz.f8 [1,1,1,1,1,1,1,1,1,1,0,1,0,0,1,0,0,1,1,0,1,0]) a h8 Q ⟨⟩ ⟨⟩:=by
 simp only[aw,nav,Tryz.f8]
 refine au (n:=153) (by kernel_rfl) (fun m' a' h'=>∃(i:Nat) (B' F':Nat->Prop) (v':Value) (qs:Prs),i<=ys.length/\m'=ys.length - i/\LSt R tbl sm tm hS BS FS h' B' F' v' (ps8++qs)/\qs.length=i/\aK qs=aK (ys.take i)/\KeepE B8 F8 h8 h'/\WideC h8 B8 F8 B' F'/\vM a a' /\
   a'.get 18=v'/\a'.get 131=vys/\a'.get 132=.int .i64 (ys.length:Int)/\a'.get 133=.int .i64 (i:Int)) ?_ _ _ _ hna
  ⟨0,B8,F8,v8,[],lZr _,rfl,by rw[List.append_nil];exact L,rfl,rfl,(bT (Ext.refl _)).wide (fun _ _ c=>c.elim) (fun _ c=>c.elim),WideC.refl _ _ _,⟨rfl,rfl,rfl,rfl,rfl⟩,g18,g131,g132,g133⟩
 rintro m' a' h' hn' ⟨i,B',F',v',qs,hi,rfl,L',hql,hqs,Kk,Ww,Y,e18,e131,e132,e133⟩
 by_cases hlt:i<ys.length
 rotate_left
 ·have c1:decide ((i:Int)<(ys.length:Int))=false:=dcF (by omega)
  have ht:ys.take i=ys:=List.take_of_length_le (by omega)
  rw[ht] at hqs
  simp -dsimp only[go_sem,e18,e131,e132,e133,c1]
  refine hq _ _ B' F' v' qs (by simp -dsimp only[go_sem,hn']) L' hqs ?_ (by simp -dsimp only[go_sem,e18])
  unfold vM at Y ⊢
  simp -dsimp only[go_sem,Y]
 have c1:decide ((i:Int)<(ys.length:Int))=true:=dcT (by omega)
 have hys':=hys.step Kk Ww
 obtain ⟨by1,cy,rfl,hly⟩:=hys'.load hlt
 have hyi:=(hpy.step Kk Ww) ys[i] (List.getElem_mem hlt)
 obtain ⟨w2,h12,v4,h14,B4,F4,hs1,ha3,A4,P4,K4,⟨A2,eq2⟩⟩:=xu L'.a L'.p hyi L'.lt L'.ltf (L'.bn hbS) L'.x.next L'.x.nfam (hwy _ (List.getElem_mem hlt)) (by rw[List.length_append,hql];omega)
 have L4:=L'.app K4 A4 P4
 have hbs:aY Tryz.prog 27 1 [(0,w2)]=some (.cells ⟨[w2],34,0,0,false⟩,fun b=>.slice (some ⟨b,0,none⟩) 1 1):=by
  rw[uH 1 (by decide),eq2]
  rfl
 have hws:=ah hlt (by omega:ys.length<=9223372036854775807)
 have ik:ap Tryz.prog 27 (.slice (some ⟨by1,0,none⟩) ys.length cy) (.int .i64 (i:Int))=some (.pointer (some ⟨by1,i,none⟩)):=by
  have:=jO (b:=by1) (o:=0) (n:=ys.length) (c:=cy) (i:=i) hlt
  rwa[Nat.zero_add] at this
 simp -dsimp only[go_sem,e18,e131,e132,e133,c1,ik,hly]
 refine ⟨w2,h12,hs1,?_⟩
 simp -dsimp only[go_sem,e18,e131,e132,e133,bP,hbs,ha3,hws]
 refine ⟨ys.length - (i+1),by omega,i+1,B4,F4,v4,qs++[(w2,ys[i].2)],by omega,rfl,by rw[<-List.append_assoc];exact L4,by simp[hql],?_,Kk.step Ww K4.keep,Ww.trans K4.wide Kk.next Kk.nfam,?_,by first|rfl|simp -dsimp only[go_sem,e18,e131]⟩
 ·rw[List.take_succ_eq_append_getElem hlt]
  simp only[aK,List.map_append,List.map_cons,List.map_nil]
  simp only[aK] at hqs
  rw[hqs]
 ·unfold vM at Y ⊢
  simp -dsimp only[go_sem,Y]
end
section
variable {r:Ro} {mb bk m eb:Nat} {FT:Nat->Nat} {Gv lv rv xr xl:Value} {G:List ar} {em:List Bool} {rks:List Nat}
variable {h h1 h2:Hp} {B F B' F' B2 F2 BS FS B8 F8:Nat->Prop} {R:ByteArray->Tx->Prop} {tbl:Tbl} {sm tm n0 f0:Nat} {hS h8:Hp}
theorem uN {A B:List Tx} {n:Nat} (hA:aQ A) (hB:aQ B) (ha:∀t∈A,t.length<n) (hb:∀t∈B,t.length=n):aQ (A++B):=by
 unfold aQ at hA hB ⊢
 rw[List.pairwise_append]
 refine ⟨hA,hB,fun a h1 b h2 => ?_⟩
 have:=ha a h1
 have:=hb b h2
 unfold bW
 rw[if_neg (by omega)]
 exact dcT (by omega)
theorem C5 {rule:ByteArray} {kk:Nat} {p:ad} {z:Int} (hz:z<=1000) (hbS:hS.base<=hS.next) (K:MkR r G hS n0 f0 FT mb bk m eb em Gv lv rv xr xl sm tm tbl rks) (j1:IsMap hS sm) (j2:IsMap hS tm)
  (hix:ae (nms G) rule<(nms G).length) (hkk:rks[ae (nms G) rule]? = some kk)
  (hA:∀n:Nat,(n:Int)<=z->gm R r G n0 f0 FT mb bk m eb em Gv lv rv xr xl sm tm tbl rks n kk p) (hL:∀n:Nat,(n:Int)<=z->gA R r G n0 f0 FT mb bk m eb em Gv lv rv xr xl sm tm tbl rks n kk p)
  (hTot:∀Q:List Tx,Q.Nodup->(∀u∈Q,(u.length:Int)<=z/\mkM R p u)->Q.length<=2000)
  (L:LSt R tbl sm tm hS BS FS h8 B8 F8 (.slice none 0 0) [])
  {a:Ev.A} {Q:Ex->Ev.A->Hp->Prop} (hna:a.n=153) (g1:a.get 1=.string rule) (g2:a.get 2=.int .i64 z) (g8:a.get 8=.pointer (some ⟨bk,0,none⟩)) (g11:a.get 11=.pointer (some ⟨mb,0,none⟩)) (g18:a.get 18=.slice none 0 0) (g19:a.get 19=.int .i64 0)
  (hq:∀(a1:Ev.A) (h9:Hp) (B9 F9:Nat->Prop) (v9:Value) (ps9:Prs),a1.n=153->LSt R tbl sm tm hS BS FS h9 B9 F9 v9 ps9->aQ (aK ps9)->(∀t,t∈aK ps9<->(t.length:Int)<=z/\mkM R p t)->a1.get 18=v9->Q (.exit 6) a1 h9) :
  Th Tryz.prog (aw Tryz.f8 [1,1,1,1,1,1,1,1,1,1,0,1,0]) a h8 Q ⟨⟩ ⟨⟩:=by
 simp only[aw,nav,Tryz.f8]
 refine au (n:=153) (by kernel_rfl) (fun m' a' h'=>∃(i:Nat) (B' F':Nat->Prop) (v':Value) (ps':Prs),(i=0\/(i:Int)<=z+1)/\m'=(z+1).toNat - i/\LSt R tbl sm tm hS BS FS h' B' F' v' ps'/\aQ (aK ps')/\(∀t,t∈aK ps'<->t.length<i/\mkM R p t) /\
   a'.get 1=.string rule/\a'.get 2=.int .i64 z/\a'.get 8=.pointer (some ⟨bk,0,none⟩)/\a'.get 11=.pointer (some ⟨mb,0,none⟩)/\a'.get 18=v'/\a'.get 19=.int .i64 (i:Int)) ?_ _ _ _ hna
  ⟨0,B8,F8,_,[],.inl rfl,rfl,L,List.Pairwise.nil,fun t=>by simp[aK],g1,g2,g8,g11,g18,g19⟩
 rintro m' a' h' hn' ⟨i,B',F',v',ps',hi,rfl,L',hso,hmem,e1,e2,e8,e11,e18,e19⟩
 by_cases hin:(i:Int)<=z
 rotate_left
 ·have c1:decide ((i:Int)<=z)=false:=dcF hin
  simp -dsimp only[go_sem,e1,e2,e8,e11,e18,e19,c1]
  refine hq _ _ B' F' v' ps' (by simp -dsimp only[go_sem,hn']) L' hso (fun t => ?_) (by simp -dsimp only[go_sem,e18])
  rw[hmem]
  constructor
  ·rintro ⟨q1,q2⟩
   exact ⟨by rcases hi with rfl|hi<;>omega,q2⟩
  ·rintro ⟨q1,q2⟩
   exact ⟨by omega,q2⟩
 have c1:decide ((i:Int)<=z)=true:=dcT hin
 have K':=L'.mkr K j1 j2
 have hb':=L'.bn hbS
 obtain ⟨rb,rN,exr,w4,w5⟩:=rF K'.rule hkk
 have m3:∀h9:Hp,MkR r G h9 n0 f0 FT mb bk m eb em Gv lv rv xr xl sm tm tbl rks->h9.load ⟨mb,3,none⟩=some xr:=fun h9 k=>by rw[aa k.own];rfl
 have m6:∀h9:Hp,MkR r G h9 n0 f0 FT mb bk m eb em Gv lv rv xr xl sm tm tbl rks->h9.load ⟨mb,6,none⟩=some (.bool false):=fun h9 k=>by rw[aa k.own];rfl
 have mk1:h'.load ⟨bk,1,none⟩=some (.map (some m)):=by rw[aa K'.book.own];rfl
 have lkb:=K'.book.lookup hix false
 rw[if_neg (by decide)] at lkb
 have ir:ap Tryz.prog 71 xr (.int .i64 (ae (nms G) rule:Int))=some (.pointer (some ⟨rb,ae (nms G) rule,none⟩)):=by
  have:=mB (b:=rb) (o:=0) (n:=rN) (c:=rN) (i:=ae (nms G) rule) w4
  rw[exr]
  rwa[Nat.zero_add] at this
 have s1:aB 9 xr xr=true:=by rw[exr];simp[aB]
 have hws:=ah (n:=i) (m:=i+1) (by omega) (by omega)
 obtain ⟨l0,M0,S0⟩:=L'.m
 obtain ⟨_,h11,hs1,b1,l1,rfl,iff1,X1,M1,S1⟩:=hA i hin h' l0 K' hb' M0 S0 L'.i2
 obtain ⟨L1,K1⟩:=L'.callA K.st X1 M1 S1
 simp -dsimp only[go_sem,e1,e2,e8,e11,e18,e19,c1]
 refine aD (n:=153) [[],[0],[0,1],[0,1,2],[],[4],[4,5],[4,5,6],[],[4,5,6,7,8],[0,1,2,3,4,5,6,7,8,9],[0,1,2,3,4,5,6,7,8,9,10],[0,1,2,3,4,5,6,7,8,9,10,11]] (by simp -dsimp only[go_sem,hn']) (ao (by kernel_rfl)) ?_
 simp -dsimp only[go_sem,e1,e2,e8,e11,e18,e19,m3 h' K',mk1,lkb,ir,w5,s1]
 refine ⟨_,h11,hs1,?_⟩
 cases b1 with
 | false =>
   have no:∀t:Tx,¬(t.length=i/\mkM R p t):=fun t c=>absurd (iff1.2 ⟨t,c⟩) (by decide)
   simp -dsimp only[go_sem,Bool.not_false,e1,e2,e8,e11,e18,e19,hws]
   exact ⟨(z+1).toNat - (i+1),by omega,i+1,B',F',v',ps',.inr (by omega),rfl,L1,hso,fun t=>(hmem t).trans ⟨fun c=>⟨by omega,c.2⟩,fun c=>⟨by
    by_cases e:t.length=i
    ·exact absurd ⟨e,c.2⟩ (no t)
    ·have:=c.1;omega,c.2⟩⟩,by first|rfl|simp -dsimp only[go_sem,e18]⟩
 | true =>
   obtain ⟨vys,h12,hs2,⟨ys,gy1,gy2,gy3,gy4⟩,X2,M2,T2⟩:=hL i hin h11 B' F' L1.lt L1.ltf (L1.mkr K j1 j2) (L1.bn hbS) L1.m L1.tk
   have L2:=L1.call X2 M2 T2
   have hyl:ys.length<=2000:=by
    have:=hTot _ (bL gy3) (fun u hu=>⟨by have:=((gy4 u).1 hu).1;omega,((gy4 u).1 hu).2⟩)
    rwa[cj] at this
   have hpl:ps'.length<=2000:=by
    have:=hTot _ (bL hso) (fun u hu=>⟨by have:=((hmem u).1 hu).1;omega,((hmem u).1 hu).2⟩)
    rwa[cj] at this
   obtain ⟨Ay,cy,rfl,_⟩:=gy1.shape
   simp -dsimp only[go_sem,Bool.not_true,e1,e2,e8,e11,e18,e19]
   refine ⟨_,h12,hs2,?_⟩
   simp -dsimp only[go_sem,e1,e2,e8,e11,e18,e19]
   refine tf hbS L2 gy1 gy2 (fun q hq => ?_) (by omega) (by simp -dsimp only[go_sem,hn']) (by simp -dsimp only[go_sem,e18]) (by simp -dsimp only[go_sem]) (by simp -dsimp only[go_sem]) (by simp -dsimp only[go_sem]) (fun a2 h9 B9 F9 v9 qs hn2 L9 hqs Y p18 => ?_)
   ·have:=((gy4 q.2).1 (List.mem_map.2 ⟨q,hq,rfl⟩)).1
    omega
   obtain ⟨y1,y2,y8,y11,y19⟩:=Y
   have hsn:aK (ps'++qs)=aK ps'++aK ys:=by simp only[aK,List.map_append] at hqs ⊢;rw[hqs]
   have hso9:aQ (aK (ps'++qs)):=by
    rw[hsn]
    exact uN hso gy3 (fun t ht=>((hmem t).1 ht).1) (fun t ht=>((gy4 t).1 ht).1)
   have hmem9:∀t,t∈aK (ps'++qs)<->t.length<i+1/\mkM R p t:=fun t=>by
    rw[hsn,List.mem_append,hmem,gy4]
    constructor
    ·rintro (⟨q1,q2⟩|⟨q1,q2⟩)
     ·exact ⟨by omega,q2⟩
     ·exact ⟨by omega,q2⟩
    ·rintro ⟨q1,q2⟩
     by_cases e:t.length=i
     ·exact .inr ⟨e,q2⟩
     ·exact .inl ⟨by omega,q2⟩
   have hl9:(ps'++qs).length<=2000:=by
    have:=hTot _ (bL hso9) (fun u hu=>⟨by have:=((hmem9 u).1 hu).1;omega,((hmem9 u).1 hu).2⟩)
    rwa[cj] at this
   have K9:=L9.mkr K j1 j2
   obtain ⟨A9,c9,e9,_⟩:=L9.a.shape
   subst e9
   have cg:decide ((2000:Int)<((ps'++qs).length:Int))=false:=dcF (by omega)
   simp -dsimp only[go_sem,y1,y2,y8,y11,y19,e1,e2,e8,e11,e19,p18,m6 h9 K9,cg,hws]
   exact ⟨(z+1).toNat - (i+1),by omega,i+1,B9,F9,_,ps'++qs,.inr (by omega),rfl,L9,hso9,hmem9,by first|rfl|simp -dsimp only[go_sem]⟩
end
section
variable {G:List ar} {em pr:List Bool} {S:Nat->Prop} {rk:Nat->Nat} {most cap:Nat} {made:List (List Tx)}
theorem BF (Kx:Mkx G most cap made em S rk) (hcl:∀k,k<G.length->prB (nms G) pr (aZ G k)=true->pr.getD k false=true):∀(p:ad) (w:Tx),plP S (ae (nms G)) p->mkM (RM (nms G) made) p w->prB (nms G) pr p=true:=by
 have all:∀(t:ByteArray) (w:Tx),S (ae (nms G) t)->RM (nms G) made t w->pr.getD (ae (nms G) t) false=true:=fun t w hS h =>
  Kx.all (fun j _=>pr.getD j false=true) (fun j w hS _ h=>hcl j (Kx.lt _ hS) (lT (R:=fun t u=>S (ae (nms G) t)/\pr.getD (ae (nms G) t) false=true) (fun t u q=>q.2) _ _ w h (lSs _))) hS h
 intro p w hp h
 exact lT (R:=LessR (RM (nms G) made) S (ae (nms G)) w.length (stM (emf (nms G) em) p)) (fun t u q=>all t u q.2.1 q.1) _ _ w (i6 (em:=emf (nms G) em) (fun s=>Kx.emOk s) p w hp h) (lSs _)
theorem vN (Kx:Mkx G most cap made em S rk) (hcap:cap<=900) {t:ByteArray} (hS:S (ae (nms G) t)):∀Q:List Tx,Q.Nodup->(∀u∈Q,u.length<=most/\mkM (RM (nms G) made) (aZ G (ae (nms G) t)) u)->Q.length<=2000:=by
 intro Q hQ hall
 have hl:=Kx.lt _ hS
 have hm:made[ae (nms G) t]? = some (made[ae (nms G) t]'(by rw[Kx.fix.len];exact hl)):=gEl _
 have hsub:∀u∈Q,u∈made[ae (nms G) t]'(by rw[Kx.fix.len];exact hl):=fun u hu=>(Kx.fix.fix _ _ (Kx.plq _ hS) hm u).2 (hall u hu)
 have h1:=m8 hQ hsub
 have h2:=(Kx.fix.inv.fit _ (List.getElem_mem (by rw[Kx.fix.len];exact hl))).1
 omega
theorem BG (Kx:Mkx G most cap made em S rk) (hcap:cap<=900) {t:ByteArray} (hS:S (ae (nms G) t)) {n:Nat} (hn:n<=most):CapP (RM (nms G) made) (aZ G (ae (nms G) t)) n:=fun Q hQ hall =>
 vN Kx hcap hS Q hQ (fun u hu=>⟨by rw[(hall u hu).1];exact hn,(hall u hu).2⟩)
end
section
variable {r:Ro} {n0 f0 mb bk:Nat} {G:List ar} {Gv:Option Addr} {gc:Nat} {x4 x5 x6 x7:Value}
abbrev eM (G:List ar):List ad:=G.map (·.body)
theorem xv {i:Nat} (hi:i<G.length):bB ((eM G).take (i+1)) 0=bB ((eM G).take i) 0++bz G[i].body (bB ((eM G).take i) 0).length/\cY ((eM G).take (i+1)) 0=cY ((eM G).take i) 0++[(bB ((eM G).take i) 0).length]:=by
 have:=qj (l:=eM G) (i:=i) (by simpa using hi) 0
 simpa using this
theorem zH (hmb:n0<=mb) {h:Hp} {FT:Nat->Nat} {lv rv xr:Value} {tbl:Tbl} {ks:List Nat} {p:ad} {cs:List Value} (hrom:h.rom=r) (hb:h.base<=h.next) (hn0:n0<=h.next) (hf0:f0<=h.nfam) (hM:h.own mb 73 (cL bk lv rv xr x4 x5 x6 x7)) (hT:Tab r h n0 f0 FT lv rv tbl) (hK:SlL 1 3 99 h n0 f0 FT xr (fZ ks))
  (hp:RoPart r p cs) (hbig:tbl.length+(bz p 0).length<=100000) (hkl:ks.length<=1000) :
  ∃v h11 h12 xr' h13 h14 FT' lv' rv',Snd Tryz.prog 24 [.pointer (some ⟨mb,0,none⟩),.agg cs.toArray] h v h11/\v=.int .i64 (tbl.length:Int)/\h11.own mb 73 (cL bk lv' rv' xr x4 x5 x6 x7)/\h12=h11.newH (.cells ⟨[v],3,0,0,false⟩)/\bt Tryz.prog h12 [71,71] [xr,.slice (some ⟨h11.next,0,none⟩) 1 1]=some (xr',h13)/\(∃A,xr'=.slice A (ks.length+1) (ks.length+1)) /\
   h13.own mb 73 (cL bk lv' rv' xr x4 x5 x6 x7)/\h13.stores ⟨mb,3,none⟩ [xr']=some h14/\h14.own mb 73 (cL bk lv' rv' xr' x4 x5 x6 x7)/\Tab r h14 n0 f0 FT' lv' rv' (tbl++bz p tbl.length)/\SlL 1 3 99 h14 n0 f0 FT' xr' (fZ (ks++[tbl.length]))/\ExtN n0 f0 h h14/\h.next<=h14.next/\h.nfam<=h14.nfam/\h14.base=h.base/\h14.rom=h.rom:=by
 obtain ⟨v11,h11,hs11,hv11,FT11,lv11,rv11,q1,q2,q3,q4,q5,q6,q7⟩:=DN hmb _ p (lSs _) h FT lv rv tbl cs hrom hb hn0 hf0 hM hT hp hbig
 obtain ⟨css0,hl0,_,_⟩:=hT.l
 obtain ⟨kvs0,hr0,_,_⟩:=hT.rest
 have nBB:∀(b:Nat) (cs:List Value) (f:Nat),bX 3 h b cs f->n0<=b->¬BB mb lv rv b:=by
  intro b cs f k _ c
  rcases c with c|c|c
  ·rw[c] at k
   exact absurd (gz k (b8 hM)) (by decide)
  ·exact hl0.ne k (by decide) c
  ·exact hr0.ne k (by decide) c
 have K11:SlL 1 3 99 h11 n0 f0 FT11 xr (fZ ks):=d9 q4 q1 hK nBB (fun c=>by
  rcases c with c|c|c<;>omega)
 have hb11:h11.base<=h11.next:=q4.bn hb
 have hx12:=Ext.new h11 (ak.cells ⟨[v11],3,0,0,false⟩)
 have hy12:=an hb11 3 [v11]
 generalize hhB:h11.newH (ak.cells ⟨[v11],3,0,0,false⟩)=h12 at hx12 hy12
 have hM12:=aj hx12 q2
 have T12:=q3.keep (B:=fun _=>False) (T:=fun _=>False) (Fr.of hx12) (Agree.refl _) (fun _ _ _ _ _ _ _ c=>c) (fun c=>c) (fun c=>c) (fun _ _ _ _ _ c=>c)
 have K12:=d9 (B:=fun _=>False) (T:=fun _=>False) (Fr.of hx12) (Agree.refl _) K11 (fun _ _ _ _ _ c=>c) (fun c=>c)
 have hb12:h12.base<=h12.next:=by rw[hx12.base];exact lTr hb11 hx12.next
 have hfx:bS h12 1 1 (.slice (some ⟨h11.next,0,none⟩) 1 1)=some [v11]:=by
  simp only[bS,af hy12,Nat.one_mul,List.drop_zero,bU]
 have hil:(fZ ks).length=ks.length:=k7 _
 obtain ⟨h13,FT13,n13,hn13,happ,K13,A13,F13,E13,lt13,_,_,_⟩:=na (t:=71) (m:=1) Tryz.underlying71 wY yz3 ⟨rfl,by decide⟩ (by kernel_rfl) (by kernel_rfl) K12 rfl hfx (by decide) rfl (by rw[hv11];rfl) hb12 (lTr hn0 (lTr q4.next hx12.next)) (lTr hf0 (lTr q4.nfam hx12.nfam)) (by rw[hil];simp;omega)
 have hiN:n13=ks.length:=by omega
 subst hiN
 have nmb:blk xr≠some mb:=fun c=>K12.ne (b8 hM12) (by decide) c
 have hM13:=F13.own _ _ _ hM12 nmb
 obtain ⟨css12,hl12,_,_⟩:=T12.l
 obtain ⟨kvs12,hr12,_,_⟩:=T12.rest
 have T13:Tab r h13 n0 f0 FT13 lv11 rv11 (tbl++bz p tbl.length):=by
  obtain ⟨⟨css12,hl12,a2,a3⟩,kvs12,hr12,b2,b3⟩:=T12
  refine ⟨⟨css12,hl12.keep F13 A13 (fun b c d=>K12.apart hl12 (by omega) b c d) (by omega),a2,a3⟩,kvs12,hr12.keep F13 A13 (fun b c d=>K12.apart hr12 (by omega) b c d) (by omega),b2,fun j q ks v g1 g2 => ?_⟩
  rcases b3 j q ks v g1 g2 with k|⟨k1,k2⟩
  ·exact .inl k
  ·exact .inr ⟨k1,k2.keep F13 A13 (fun b c d=>K12.apart k2 (by omega) b c d) (by omega)⟩
 have hst:=aE hM13 (o:=3) (vs:=[.slice (some ⟨h12.next,0,none⟩) (ks.length+1) (ks.length+1)]) (c1:=cL bk lv11 rv11 (.slice (some ⟨h12.next,0,none⟩) (ks.length+1) (ks.length+1)) x4 x5 x6 x7) (by rfl) (by rfl) (by simp)
 have xp:ExtS (aR mb) h13 (h13.put mb (.cells ⟨cL bk lv11 rv11 (.slice (some ⟨h12.next,0,none⟩) (ks.length+1) (ks.length+1)) x4 x5 x6 x7,73,0,0,false⟩)):=(Ext.refl h13).toS.put (.inr (show aR mb mb from rfl)) _
 have hM14:=av hM13 (cL bk lv11 rv11 (.slice (some ⟨h12.next,0,none⟩) (ks.length+1) (ks.length+1)) x4 x5 x6 x7)
 have F14:Fr (aR mb) (fun _=>False) FT13 h13 _:=Fr.ofS xp (fun b c=>c)
 have nr:∀b e cs f,bX e h13 b cs f->(e=48\/e=71\/e=3)->n0<=b->¬aR mb b:=fun b e cs f k he _ c=>by
  have c:b=mb:=c
  rw[c] at k
  have:=gz k (b8 hM13)
  rcases he with e|e|e<;>(rw[e] at this;exact absurd this (by decide))
 have e13:fZ (ks++[tbl.length])=fZ ks++[v11]:=by rw[hv11];simp[fZ]
 refine ⟨v11,h11,h12,_,h13,_,FT13,lv11,rv11,hs11,hv11,q2,hhB.symm,happ,⟨_,rfl⟩,hM13,hst,hM14,T13.keep F14 (Agree.refl _) nr (fun c=>c) (fun c=>c) (fun _ _ _ _ _ c=>c),?_,?_,?_,?_,?_,?_⟩
 ·rw[e13]
  exact d9 F14 (Agree.refl _) K13 (fun b cs f k hn=>nr b 3 cs f k (.inr (.inr rfl)) hn) (fun c=>c)
 ·refine ((q5.trans (ExtN.of hx12)).trans E13).trans (fun S h0 q q1 q2=>q.put (.inl (lTr q1 hmb)) _)
 ·exact lTr (lTr (lTr q4.next hx12.next) F13.next) xp.next
 ·exact lTr (lTr (lTr q4.nfam hx12.nfam) F13.nfam) xp.nfam
 ·exact xp.base.trans (F13.base.trans (hx12.base.trans q4.base))
 ·exact (bG xp rfl).trans (F13.rom.trans (hx12.rom.trans q4.rom))
end
section
variable {r:Ro} {n0 f0 mb bk:Nat} {G:List ar} {Gv:Option Addr} {gc:Nat} {x4 x5 x6 x7:Value}
def vP (a a1:Ev.A):Prop:=a1.get 1=a.get 1/\a1.get 2=a.get 2/\a1.get 3=a.get 3/\a1.get 8=a.get 8/\a1.get 9=a.get 9/\a1.get 11=a.get 11
theorem tg (hmb:n0<=mb) {gb go:Nat} {gcss:Nat->List Value} (RR:bd r G Gv gc gb go gcss) (hbig:(bB (eM G) 0).length<=100000) {FT8:Nat->Nat}
  {a:Ev.A} {h8:Hp} {Q:Ex->Ev.A->Hp->Prop} (hna:a.n=153) (hrom:h8.rom=r) (hb:h8.base<=h8.next) (hn0:n0<=h8.next) (hf0:f0<=h8.nfam) (hM:h8.own mb 73 (cL bk (.slice none 0 0) (.slice none 0 0) (.slice none 0 0) x4 x5 x6 x7))
  (g11:a.get 11=.pointer (some ⟨mb,0,none⟩)) (g47:a.get 47=.slice Gv G.length gc) (g48:a.get 48=.int .i64 (G.length:Int)) (g49:a.get 49=.int .i64 0)
  (hq:∀(a1:Ev.A) (h9:Hp) (FT:Nat->Nat) (lv rv xr:Value),a1.n=153->h9.own mb 73 (cL bk lv rv xr x4 x5 x6 x7)->Tab r h9 n0 f0 FT lv rv (bB (eM G) 0)->SlL 1 3 99 h9 n0 f0 FT xr (fZ (cY (eM G) 0))->ExtN n0 f0 h8 h9->h9.rom=r->h9.base<=h9.next->h8.next<=h9.next->vP a a1->Q (.exit 0) a1 h9) :
  Th Tryz.prog (aw Tryz.f8 [1,1,1,1,1,0,1,0]) a h8 Q ⟨⟩ ⟨⟩:=by
 have hGb:(eM G).length=G.length:=List.length_map _
 simp only[aw,nav,Tryz.f8]
 refine au (n:=153) (by kernel_rfl) (fun m' a' h'=>∃(i:Nat) (FT:Nat->Nat) (lv rv xr:Value),i<=G.length/\m'=G.length - i/\h'.own mb 73 (cL bk lv rv xr x4 x5 x6 x7)/\Tab r h' n0 f0 FT lv rv (bB ((eM G).take i) 0)/\SlL 1 3 99 h' n0 f0 FT xr (fZ (cY ((eM G).take i) 0))/\ExtN n0 f0 h8 h'/\h'.rom=r/\h'.base<=h'.next/\h8.next<=h'.next/\h8.nfam<=h'.nfam/\vP a a' /\
   a'.get 47=.slice Gv G.length gc/\a'.get 48=.int .i64 (G.length:Int)/\a'.get 49=.int .i64 (i:Int)) ?_ _ _ _ hna
  ⟨0,FT8,_,_,_,lZr _,rfl,hM,⟨⟨[],.inl ⟨rfl,rfl⟩,by rw[List.take_zero,bB];rfl,fun i p ks cs c=>by rw[List.take_zero,bB] at c;simp at c⟩,[],.inl ⟨rfl,rfl⟩,by rw[List.take_zero,bB];rfl,fun i p ks v c=>by rw[List.take_zero,bB] at c;simp at c⟩,.inl ⟨by rw[List.take_zero,cY];rfl,rfl⟩,fun S h0 q _ _=>q,hrom,hb,lRf _,lRf _,⟨rfl,rfl,rfl,rfl,rfl,rfl⟩,g47,g48,g49⟩
 rintro m' a' h' hn' ⟨i,FT,lv,rv,xr,hi,rfl,M',T',K',E',hrom',hb',hnx,hnf,X,e47,e48,e49⟩
 by_cases hlt:i<G.length
 rotate_left
 ·have c1:decide ((i:Int)<(G.length:Int))=false:=dcF (by omega)
  rw[List.take_of_length_le (by omega)] at T' K'
  simp -dsimp only[go_sem,e47,e48,e49,c1]
  refine hq _ _ FT lv rv xr (by simp -dsimp only[go_sem,hn']) M' T' K' E' hrom' hb' hnx ?_
  unfold vP at X ⊢
  simp -dsimp only[go_sem,X]
 have c1:decide ((i:Int)<(G.length:Int))=true:=dcT (by omega)
 obtain ⟨e1,e2,e3,e8,e9,e11⟩:=X
 have hpi:G[i]? = some G[i]:=gEl hlt
 obtain ⟨Av1,c1',hcs⟩:=(RR.hk _ _ hpi).shape
 have hat':=RR.hat _ _ hpi
 have hkid:=RR.hk _ _ hpi
 rw[hcs] at hat' hkid
 have hAv:=RR.hA (aO hlt)
 subst hAv
 have hx0:=Ext.new h' (ak.cells ⟨[.string ⟨#[]⟩,.string ⟨#[]⟩,.string ⟨#[]⟩,.slice none 0 0],50,0,0,false⟩)
 have hw0:=an hb' 50 [.string ⟨#[]⟩,.string ⟨#[]⟩,.string ⟨#[]⟩,.slice none 0 0]
 have hst:=aE (o:=0) (vs:=[.string G[i].name,.string G[i].body.d,.string G[i].body.t,.slice Av1 G[i].body.l.length c1']) (c1:=[.string G[i].name,.string G[i].body.d,.string G[i].body.t,.slice Av1 G[i].body.l.length c1']) hw0 rfl rfl (by simp)
 have hx1:=hx0.put (b:=h'.next) (lRf _) (ak.cells ⟨[.string G[i].name,.string G[i].body.d,.string G[i].body.t,.slice Av1 G[i].body.l.length c1'],50,0,0,false⟩)
 have hP1:=av hw0 [.string G[i].name,.string G[i].body.d,.string G[i].body.t,.slice Av1 G[i].body.l.length c1']
 generalize hhA:(h'.newH (ak.cells ⟨[.string ⟨#[]⟩,.string ⟨#[]⟩,.string ⟨#[]⟩,.slice none 0 0],50,0,0,false⟩)).put h'.next (ak.cells ⟨[.string G[i].name,.string G[i].body.d,.string G[i].body.t,.slice Av1 G[i].body.l.length c1'],50,0,0,false⟩)=hA1 at hst hx1 hP1
 have hl3:hA1.loads ⟨h'.next,1,none⟩ 3=some [.string G[i].body.d,.string G[i].body.t,.slice Av1 G[i].body.l.length c1']:=by rw[af hP1];rfl
 have MA:=aj hx1 M'
 have TA:=T'.keep (B:=fun _=>False) (T:=fun _=>False) (Fr.of hx1) (Agree.refl _) (fun _ _ _ _ _ _ _ c=>c) (fun c=>c) (fun c=>c) (fun _ _ _ _ _ c=>c)
 have KA:=d9 (B:=fun _=>False) (T:=fun _=>False) (Fr.of hx1) (Agree.refl _) K' (fun _ _ _ _ _ c=>c) (fun c=>c)
 obtain ⟨t1,t2⟩:=xv (G:=G) hlt
 have hle:=k8 (eM G) (i+1) 0
 rw[t1,List.length_append] at hle
 have hpl:(bz G[i].body (bB ((eM G).take i) 0).length).length=(bz G[i].body 0).length:=fu _ _ _
 have hkl:(cY ((eM G).take i) 0).length<=1000:=by rw[fq,List.length_take];have:=RR.hb;omega
 obtain ⟨v,h11,h12,xr',h13,h14,FT',lv',rv',hs11,hv,M11,hh12,happ,⟨A',exr⟩,M13,hst14,M14,T14,K14,E14,nx14,nf14,ba14,ro14⟩:=zH hmb (hx1.rom.trans hrom') (by rw[hx1.base];exact lTr hb' hx1.next) (lTr hn0 (lTr hnx hx1.next)) (lTr hf0 (lTr hnf hx1.nfam)) MA TA KA hkid (by omega) hkl
 rw[<-t1] at T14
 rw[<-t2] at K14
 have mA3:hA1.load ⟨mb,3,none⟩=some xr:=by rw[aa MA];rfl
 have m11:h11.load ⟨mb,3,none⟩=some xr:=by rw[aa M11];rfl
 have m12:h12.load ⟨mb,3,none⟩=some xr:=by rw[hh12,aa (aj (Ext.new _ _) M11)];rfl
 have m13:h13.load ⟨mb,3,none⟩=some xr:=by rw[aa M13];rfl
 obtain ⟨Ax,nx,exx,_,hsx⟩:=KA.len
 have sx:aB 9 xr xr=true:=by rw[exx];exact ab hsx _ _ _
 have hbs:aY Tryz.prog 71 1 [(0,v)]=some (.cells ⟨[v],3,0,0,false⟩,fun b=>.slice (some ⟨b,0,none⟩) 1 1):=by
  rw[yV 1 (by decide),hv]
  rfl
 have hws:=ah hlt (by have:=RR.hb;omega:G.length<=9223372036854775807)
 simp -dsimp only[go_sem,e47,e48,e49,c1,eQ hlt,az (n:=4) hrom' hat' rfl,hst]
 refine aD (n:=153) [[],[],[1],[1,2],[1,2,3],[],[],[6],[5,6,7],[5,6,7,8],[1,2,3,4,5,6,7,8,9],[0,1,2,3,4,5,6,7,8,9,10],[0,1,2,3,4,5,6,7,8,9,10,11],[0,1,2,3,4,5,6,7,8,9,10,11,12]] (by simp -dsimp only[go_sem,hn']) (ao (by kernel_rfl)) ?_
 simp -dsimp only[go_sem,e11,g11,mA3,m11,hl3,sx,ab hkid.same]
 refine ⟨v,h11,hs11,?_⟩
 subst exr
 simp -dsimp only[go_sem,e11,g11,mA3,m11,hl3,sx,ab hkid.same,hbs,<-hh12,m12,m13,bP,happ,hst14,hws,e47,e48,e49]
 exact ⟨G.length - (i+1),by omega,i+1,FT',lv',rv',_,hlt,rfl,M14,T14,K14,(E'.trans (ExtN.of hx1)).trans E14,ro14.trans (hx1.rom.trans hrom'),by rw[ba14,hx1.base];exact lTr hb' (lTr hx1.next nx14),lTr hnx (lTr hx1.next nx14),lTr hnf (lTr hx1.nfam nf14),by unfold vP;simp -dsimp only[go_sem,e1,e2,e3,e8,e9,e11],by first|rfl|simp -dsimp only[go_sem,e47,e48]⟩
end
section
variable {r:Ro} {h:Hp} {n0 f0 mb bk m eb sm tm:Nat} {FT:Nat->Nat} {Gv lv rv xr xl:Value} {G:List ar} {em:List Bool}
theorem C6 (own:h.own mb 73 (cL bk lv rv xr (.map (some sm)) (.map (some tm)) (.bool false) xl)) (T:Tab r h n0 f0 FT lv rv (bB (eM G) 0)) (K:SlL 1 3 99 h n0 f0 FT xr (fZ (cY (eM G) 0))) (Bk:Book h bk m eb Gv (nms G) em) (ms:m≠sm) (mt:m≠tm) (st:sm≠tm) :
  MkR r G h n0 f0 FT mb bk m eb em Gv lv rv xr xl sm tm (bB (eM G) 0) (cY (eM G) 0) :=
 ⟨own,T,K,Bk,ms,mt,st,by rw[fq,List.length_map],fun i x hi=>qh G i x hi⟩
theorem zI (n:Nat):PrC G (List.replicate n false):=fun j hj=>by
 rw[List.getD_eq_getElem?_getD,List.getElem?_replicate] at hj
 split at hj<;>cases hj
theorem lU (hb:h.base<=h.next):MemAt (h.newH (.map [] 0)) h.next []:=⟨lSs _,[],0,by rw[cW,if_pos rfl],rfl⟩
theorem zJ:MemI (h.newH (.map [] 0)) h.next []:=⟨lSs _,[],0,by rw[cW,if_pos rfl],rfl⟩
end
section
variable {r:Ro} {h h1:Hp} {n0 f0 mb bk m eb sm tm lg:Nat} {FT:Nat->Nat} {G:List ar} {Gv lv rv xr xl:Value} {gc:Nat} {em:List Bool} {tbl:Tbl} {rks:List Nat}
theorem lV {rule:ByteArray} {n cap:Nat} {made:List (List Tx)} (hF:Found G em) (hel:em.length=G.length) (hw:gB G em rule=true) {S:Nat->Prop} (s1:∀j,S j->j<G.length) (s2:∀j,S j->plP S (ae (nms G)) (aZ G j)) (s3:∀j,S j->PlQ G j true) (hfix:sL G n cap made) :
  ∃rk,Mkx G n cap made em S rk:=by
 unfold gB at hw
 rw[Bool.and_eq_true] at hw
 obtain ⟨rk,h1,h2⟩:=CY hw.1
 exact ⟨rk,hfix,hF,hel,s1,s2,s3,h1,fun i s hi hs=>h2 i s (s1 i hi) (s1 _ hs)⟩
theorem zK {S:Nat->Prop} {ix:ByteArray->Nat} {s:ByteArray} (h:S (ix s)):plP S ix (jT s):=by
 unfold jT
 rw[plP]
 refine ⟨by rintro (c|c)<;>exact absurd c (by decide),fun _=>h,?_⟩
 rw[plL]
 trivial
theorem Tab.keepO (T:Tab r h n0 f0 FT lv rv tbl) (x:ExtS (aR lg) h h1) (i:IsMap h lg):Tab r h1 n0 f0 FT lv rv tbl:=by
 have hrow:∀b e cs f,bX e h b cs f->¬aR lg b:=fun b e cs f q c=>by
  have c:b=lg:=c
  rw[c] at q
  exact i.row q
 exact T.keep (B:=aR lg) (T:=fun _=>False) (Fr.ofS x (fun b c=>c)) (Agree.refl _) (fun b e cs f q _ _=>hrow b e cs f q) (fun c=>c) (fun c=>c) (fun _ _ _ _ _ c=>c)
theorem SlL.keepO {sz e lab:Nat} {v:Value} {cs:List Value} (K:SlL sz e lab h n0 f0 FT v cs) (x:ExtS (aR lg) h h1) (i:IsMap h lg):SlL sz e lab h1 n0 f0 FT v cs:=by
 have hrow:∀b cs f,bX e h b cs f->¬aR lg b:=fun b cs f q c=>by
  have c:b=lg:=c
  rw[c] at q
  exact i.row q
 exact d9 (B:=aR lg) (T:=fun _=>False) (Fr.ofS x (fun b c=>c)) (Agree.refl _) K (fun b cs f q _=>hrow b cs f q) (fun c=>c)
theorem uO:∀{A B:List Tx},aQ A->aQ B->(∀t,t∈A<->t∈B)->A=B:=by
 intro A
 induction A with
 | nil =>
   intro B _ _ h
   cases B with
   | nil=>rfl
   | cons y B=>exact absurd ((h y).2 (.head _)) (by simp)
 | cons x A ih =>
   intro B hA hB h
   cases B with
   | nil=>exact absurd ((h x).1 (.head _)) (by simp)
   | cons y B =>
     have hA':=List.pairwise_cons.1 hA
     have hB':=List.pairwise_cons.1 hB
     have irr:∀a:Tx,bW a a=true->False:=fun a h=>by rw[ip] at h;cases h
     have hxy:x=y:=by
      rcases mCo.1 ((h x).1 (.head _)) with e|e
      ·exact e
      rcases mCo.1 ((h y).2 (.head _)) with f|f
      ·exact f.symm
      exact (irr x (mC (hA'.1 _ f) (hB'.1 _ e))).elim
     subst hxy
     congr 1
     refine ih hA'.2 hB'.2 (fun t=>⟨fun ht => ?_,fun ht => ?_⟩)
     ·rcases mCo.1 ((h t).1 (.tail _ ht)) with e|e
      ·subst e
       exact (irr t (hA'.1 t ht)).elim
      ·exact e
     ·rcases mCo.1 ((h t).2 (.tail _ ht)) with e|e
      ·subst e
       exact (irr t (hB'.1 t ht)).elim
      ·exact e
def th (G:List ar) (rule:ByteArray) (most:Int) (made:List (List Tx)):List Tx:=if most<0 then [] else made.getD (ae (nms G) rule) []
end
end Go.Ev.Z24
end
