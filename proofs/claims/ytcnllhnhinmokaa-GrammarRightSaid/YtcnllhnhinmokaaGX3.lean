/- For every grammar and rule, Recursive, Empty and First (a range over a map, then sorted) answer as the reference's (no condition on the arguments): part 4 of 4. -/
import Derived.Test.YtcnllhnhinmokaaGX2
import Derived.Test.YtcnllhnhinmokaaProg
import Derived.Test.YtcnllhnhinmokaaRows
import Derived.WalkKit
import Derived.ProofKit
import Derived.OpenShut
import Derived.ShutString
import Derived.ChangeOld
import Derived.Below
import Derived.SizedLaws
import Derived.Carry
set_option linter.unusedVariables false
set_option linter.unusedSimpArgs false
section
namespace Go.Ev.G24
open Go.RowKit Go.Proofs
def StrsAt (h:Hp) (v:Value) (ss:List ByteArray):Prop:=∃A c,v=.slice A ss.length c∧spotless A=true∧(ss≠[]→∃b o,A=some ⟨b,o,none⟩∧∀(i:Nat) (s:ByteArray),ss[i]? = some s→h.load ⟨b,o+i,none⟩=some (.string s))
theorem OwnE.strsAt {h:Hp} {n0 f0:Nat} {ss:List ByteArray} {v:Value} (k:OwnE 9 h n0 f0 (strs ss) v):StrsAt h v ss:=by
 rcases k with ⟨e,rfl⟩|⟨b,f,hl,rfl,hr,hb0,hf⟩
 ·have:ss=[]:=List.map_eq_nil_iff.1 e
  subst this
  exact ⟨none,0,rfl,rfl,fun c=>absurd rfl c⟩
 ·refine ⟨some ⟨b,0,none⟩,(strs ss).length,by rw [strs_len],rfl,fun _=>⟨b,0,rfl,fun i s hi => ?_⟩⟩
  rw [rowE_load hr,Nat.zero_add]
  unfold strs
  rw [List.getElem?_map,hi]
  rfl
theorem RoStrs.strsAt {h:Hp} {r:Ro} {items:List ByteArray} {Iv:Option Addr} {c b o:Nat} (R:RoStrs r items Iv c b o) (hr:h.rom=r):StrsAt h (.slice Iv items.length c) items:=by
 refine ⟨Iv,c,rfl,R.hs,fun e=>⟨b,o,R.hA e,fun i s hi => ?_⟩⟩
 exact load_ro (j:=0) hr (R.hat i s hi) rfl
def sameL (a b:List ByteArray):Bool:=decide (a.map (fun s=>s.data.toList)=b.map (fun s=>s.data.toList))
theorem sameL_refl (a:List ByteArray):sameL a a=true:=decide_eq_true rfl
set_option maxHeartbeats 4000000 in
set_option maxRecDepth 10000 in
theorem sameTexts_c {a b:List ByteArray} {v u:Value} (h:Hp) (ha:StrsAt h v a) (hb:StrsAt h u b) (hl:a.length≤1000000):∃w h1,Snd Try.prog 19 [v,u] h w h1∧w=.bool (sameL a b)∧h1=h:=by
 obtain ⟨A,c,rfl,hsA,hA⟩:=ha
 obtain ⟨B,d,rfl,hsB,hB⟩:=hb
 refine snd_go wf Try.func19 rfl rfl (n:=26) rfl (by kernel_rfl) rfl ?_
 intro ac hn hg
 have hr:Try.f19.results.toList=[.tmp 4]:=rfl
 have g0:=hg 0
 have g1:=hg 1
 clear hg
 simp only [List.getElem?_cons_zero,List.getElem?_cons_succ] at g0 g1
 by_cases hlen:a.length=b.length
 rotate_left
 ·have k1:decide ((a.length:Int)=(b.length:Int))=false:=decide_eq_false (by omega)
  have e:sameL a b=false:=by
   unfold sameL
   refine decide_eq_false (fun c=>hlen ?_)
   have:=congrArg List.length c
   simpa using this
  simp -dsimp only [go_sem,g0,g1,k1,hr,e,Bool.not_false]
 have k1:decide ((a.length:Int)=(b.length:Int))=true:=decide_eq_true (by omega)
 simp -dsimp only [go_sem,g0,g1,k1,Bool.not_true]
 refine loop_go (n:=26) (by kernel_rfl) (fun m' a' h'=>∃i:Nat,i≤a.length∧m'=a.length - i∧h'=h∧(a.take i).map (fun s=>s.data.toList)=(b.take i).map (fun s=>s.data.toList) ∧
  a'.get 0=.slice A a.length c∧a'.get 1=.slice B b.length d∧a'.get 12=.int .i64 (a.length:Int)∧a'.get 13=.int .i64 (i:Int)) ?_ a.length _ _ (by simp -dsimp only [go_sem,hn]) ⟨0,Nat.zero_le _,rfl,rfl,rfl,by simp -dsimp only [go_sem,g0],by simp -dsimp only [go_sem,g1],by simp -dsimp only [go_sem],by simp -dsimp only [go_sem];rfl⟩
 rintro m' a' h' hn' ⟨i,hi,rfl,rfl,hst,e0,e1,e12,e13⟩
 by_cases hlt:i<a.length
 rotate_left
 ·have hi0:decide ((i:Int)<(a.length:Int))=false:=decide_eq_false (by omega)
  have:i=a.length:=by omega
  subst this
  rw [List.take_length,hlen,List.take_length] at hst
  have e:sameL a b=true:=decide_eq_true hst
  simp -dsimp only [go_sem,e12,e13,hi0,hr,e]
 have hltb:i<b.length:=by omega
 have hi1:decide ((i:Int)<(a.length:Int))=true:=decide_eq_true (Int.ofNat_lt.2 hlt)
 obtain ⟨ba,oa,rfl,ha2⟩:=hA (ne_nil hlt)
 obtain ⟨bb,ob,rfl,hb2⟩:=hB (ne_nil hltb)
 have la:=ha2 i _ (List.getElem?_eq_getElem hlt)
 have lb:=hb2 i _ (List.getElem?_eq_getElem hltb)
 simp -dsimp only [go_sem,e0,e1,e12,e13,hi1]
 refine Dw_reads (n:=26) (by simp -dsimp only [go_sem,hn']) (by kernel_rfl) (by kernel_rfl) ?_
 simp -dsimp only [go_sem,e0,e1,e12,e13,ia25 hlt,ia25 hltb,la,lb]
 by_cases hs:a[i].data.toList=b[i].data.toList
 ·have k2:decide (a[i].data.toList=b[i].data.toList)=true:=decide_eq_true hs
  simp -dsimp only [go_sem,k2,Bool.not_true,e12,e13,wrap64_succ hlt (Nat.le_trans hl (by decide))]
  refine ⟨a.length - (i+1),by omega,i+1,hlt,rfl,?_,e0,e1,rfl⟩
  rw [List.take_succ_eq_append_getElem hlt,List.take_succ_eq_append_getElem hltb,List.map_append,List.map_append,hst]
  simp [hs]
 ·have k2:decide (a[i].data.toList=b[i].data.toList)=false:=decide_eq_false hs
  have e:sameL a b=false:=by
   unfold sameL
   refine decide_eq_false (fun c=>hs ?_)
   have:=congrArg (·[i]?) c
   simpa [List.getElem?_eq_getElem hlt,List.getElem?_eq_getElem hltb] using this
  simp -dsimp only [go_sem,k2,Bool.not_false,hr,e]
end Go.Ev.G24
end
section
namespace Go.Ev.G24
open Go.RowKit Go.Proofs
def sortB (ss:List ByteArray):List ByteArray:=(sortL (ss.map fun s=>s.data.toList)).map fun l=>⟨l.toArray⟩
theorem strs_sortB (ss:List ByteArray):strs (sortB ss)=(sortL (ss.map fun s=>s.data.toList)).map encStr:=by
 unfold strs sortB
 rw [List.map_map]
 rfl
theorem strs_enc (ss:List ByteArray):strs ss=(ss.map fun s=>s.data.toList).map encStr:=by
 unfold strs
 rw [List.map_map]
 refine List.map_congr_left fun s _ => ?_
 show Value.string s=Value.string ⟨s.data.toList.toArray⟩
 congr 1
theorem sortB_len (ss:List ByteArray):(sortB ss).length=ss.length:=by
 unfold sortB
 rw [List.length_map,sortL_len,List.length_map]
theorem splice_all:∀(c vs:List Value),c.length=vs.length→splice c 0 vs=some vs
 | [],[],_=>rfl
 | x::c,v::vs,h=>by simp only [splice,splice_all c vs (by simpa using h)]
theorem own_sort {h:Hp} {n0 f0:Nat} {ss:List ByteArray} {v:Value} (k:OwnE 9 h n0 f0 (strs ss) v) (hb:h.base≤h.next) (hl:ss.length<4611686018427387904) :
  ∃h1,Snd Try.prog 63 [v] h (.tuple #[]) h1∧OwnE 9 h1 n0 f0 (strs (sortB ss)) v∧(∀(S:Nat→Prop) (h0:Hp),ExtS S h0 h→h0.next≤n0→h0.nfam≤f0→ExtS S h0 h1):=by
 rcases k with ⟨e,rfl⟩|⟨b,f,hne,rfl,hr,hb0,hf⟩
 ·have e':ss=[]:=List.map_eq_nil_iff.1 e
  subst e'
  exact ⟨h,sort_none sorts rfl,.inl ⟨by simp [sortB,sortL,strs],rfl⟩,fun _ _ x _ _=>x⟩
 ·obtain ⟨bs',g,hrow⟩:=hr.row
  have hlen:(strs ss).length=(strs (sortB ss)).length:=by rw [strs_len,strs_len,sortB_len]
  have hsp:=splice_all _ _ hlen
  have hne':ss≠[]:=fun c=>hne (by rw [c];rfl)
  have hone:=strs_cell (sortB ss)
  have hsn:strs (sortB ss)≠[]:=fun c=>hne (List.length_eq_zero_iff.1 (by rw [hlen,c];rfl))
  obtain ⟨v0,vs0,hv0⟩:∃v0 vs0,strs (sortB ss)=v0::vs0:=by
   cases hc:strs (sortB ss) with
   | nil=>exact absurd hc hsn
   | cons v0 vs0=>exact ⟨v0,vs0,rfl⟩
  have fin:∀h1:Hp,h.stores ⟨b,0,none⟩ (strs (sortB ss))=some h1→RowE 9 h1 b (strs (sortB ss)) f→h1.base=h.base→h1.ro=h.ro→h1.next=h.next→h1.nfam=h.nfam→(∀y,y≠b→h1.objs.get y=h.objs.get y)→(∀q,¬(q=f∧f≠0)→h1.fams.get q=h.fams.get q) →
    ∃h1,Snd Try.prog 63 [.slice (some ⟨b,0,none⟩) (strs ss).length (strs ss).length] h (.tuple #[]) h1∧OwnE 9 h1 n0 f0 (strs (sortB ss)) (.slice (some ⟨b,0,none⟩) (strs ss).length (strs ss).length)∧(∀(S:Nat→Prop) (h0:Hp),ExtS S h0 h→h0.next≤n0→h0.nfam≤f0→ExtS S h0 h1):=by
   intro h1 hst hR e1 e2 e3 e4 e5 e6
   refine ⟨h1,?_,.inr ⟨b,f,hsn,by rw [hlen],hR,hb0,hf⟩,fun S h0 x q1 q2=>⟨e1.trans x.base,e2.trans x.ro,by rw [e3];exact x.next,fun y hy hs=>by rw [e5 y (by omega)];exact x.objs y hy hs,by rw [e4];exact x.nfam,fun q hq=>by
    rw [e6 q (fun c=>by have:=hf c.2;omega)]
    exact x.fams q hq⟩⟩
   have:=sort_snd (P:=Try.prog) (h:=h) (h1:=h1) sorts (a:=⟨b,0,none⟩) (r:=⟨strs ss,9,f,bs',g⟩) rfl hrow (ss:=ss.map fun s=>s.data.toList) (by simpa using hne') (fun j hj=>by
    rw [Nat.zero_add]
    show (strs ss)[j]? = _
    rw [strs_enc]) (by rw [List.length_map];exact hl) (cap:=(strs ss).length) (by rw [←strs_sortB];exact hst)
   rw [List.length_map] at this
   rw [strs_len] at this ⊢
   exact this
  cases hfe:f with
  | zero =>
    subst hfe
    refine fin (h.put b (.cells ⟨strs (sortB ss),9,0,bs',g⟩)) ?_ ⟨hr.lo,hr.lt,⟨bs',g,?_⟩,fun c=>absurd rfl c⟩ rfl rfl rfl rfl (fun y hy=>by rw [get_putH,if_neg hy]) (fun _ _=>rfl)
    ·rw [hv0] at hone hsp ⊢
     simp only [Hp.stores,hone,hrow,hsp]
    ·simp only [Hp.row,get_putH,if_true]
  | succ q0 =>
    subst hfe
    obtain ⟨l,hl0,hany⟩:∃l,h.fams.get (q0+1)=some l∧l.any (fun m=>Nat.beq m.b b)=true:=by
     have hrow2:=hrow
     unfold Hp.row at hrow2
     split at hrow2
     ·rename_i r hg
      split at hrow2
      ·rename_i e0
       injection hrow2 with hrow2
       rw [hrow2] at e0
       cases e0
      ·rename_i f0' e0
       split at hrow2
       ·rename_i l hl0
        split at hrow2
        ·rename_i ha
         injection hrow2 with hrow2
         rw [hrow2] at e0
         have e1:q0+1=f0'+1:=e0
         exact ⟨l,by rw [e1];exact hl0,ha⟩
        ·cases hrow2
       ·cases hrow2
     ·cases hrow2
    refine fin { h.put b (.cells ⟨strs (sortB ss),9,q0+1,bs',g⟩) with fams:=h.fams.put (q0+1) (kill l b (bs'+0) (bs'+0+(strs (sortB ss)).length)) } ?_ ⟨hr.lo,hr.lt,⟨bs',g,?_⟩,fun c=>hr.fl c⟩ rfl rfl rfl rfl (fun y hy => ?_) (fun q hq => ?_)
    ·rw [hv0] at hone hsp ⊢
     simp only [Hp.stores,hone,hrow,hsp,hl0]
    ·have hk:(kill l b (bs'+0) (bs'+0+(strs (sortB ss)).length)).any (fun m=>Nat.beq m.b b)=true:=by
      obtain ⟨m0,hm0,hmb⟩:=List.any_eq_true.1 hany
      refine List.any_eq_true.2 ⟨m0,?_,hmb⟩
      unfold kill
      rw [List.mem_filter]
      exact ⟨hm0,by rw [hmb];simp⟩
     have e1:(h.put b (.cells ⟨strs (sortB ss),9,q0+1,bs',g⟩)).objs.get b=some (.cells ⟨strs (sortB ss),9,q0+1,bs',g⟩):=by rw [get_putH,if_pos rfl]
     simp only [Hp.row,e1,Tr.get_put,if_true,hk]
    ·show (h.put b _).objs.get y=_
     rw [get_putH,if_neg hy]
    ·show (h.fams.put (q0+1) _).get q=_
     rw [Tr.get_put,if_neg (fun c=>hq ⟨c,by omega⟩)]
end Go.Ev.G24
end
section
namespace Go.Ev
open Go.RowKit
variable {P:Program} {ρ:Rho} {N:Bs} {h:Hp} {w:World} {a:Ev.A} {act:Act}
def Sns (P:Program) (f:FuncId) (args:List Value) (h:Hp) (R:Value→Hp→Prop):Prop :=
 (∃fn c,P.funcs[f]? = some fn∧fn.body=some c∧(fn.name == "runtime.NumGoroutine")=false) ∧
  ∀(ρ:Rho) (N:Bs) (w:World) (args':List Value),HR P ρ N h w→VRs ρ args args' →
   Calls P f args'.toArray w fun e w1=>∃v h1 ρ1 v',R v h1∧e=.returned v'∧ρ.le ρ1∧HR P ρ1 N h1 w1∧VR ρ1 v v'∧Below N w w1
theorem Snd.sns {f:FuncId} {args:List Value} {v:Value} {h1:Hp} {R:Value→Hp→Prop} (s:Snd P f args h v h1) (k:R v h1):Sns P f args h R :=
 ⟨s.1,fun ρ N w args' H A=>(s.2 ρ N w args' H A).mono fun _ _ ⟨ρ1,v',e,r1,r2,r3,r4⟩=>⟨v,h1,ρ1,v',k,e,r1,r2,r3,r4⟩⟩
theorem Sns.mono {f:FuncId} {args:List Value} {R R':Value→Hp→Prop} (s:Sns P f args h R) (k:∀v h1,R v h1→R' v h1):Sns P f args h R' :=
 ⟨s.1,fun ρ N w args' H A=>(s.2 ρ N w args' H A).mono fun _ _ ⟨v,h1,ρ1,v',q,r⟩=>⟨v,h1,ρ1,v',k v h1 q,r⟩⟩
def NdOp (P:Program) (op:Op) (a:Ev.A) (h:Hp) (K:Value→Hp→Prop):Prop :=
 ∀(N:Bs) (ρ:Rho) (w:World) (act:Act) (o:Oper),o.op=op→HR P ρ N h w→ActR ρ a act→∀(next:Act→World→Prop) (Q:Exit→Act→World→Prop),
  (∀v h1 ρ1 w1 v',K v h1→ρ.le ρ1→VR ρ1 v v'→HR P ρ1 N h1 w1→Below N w w1→next (act.put o.dst v') w1)→o.wp P act w next Q
theorem ndop_det (W:WfP P) {op:Op} {K:Value→Hp→Prop} (k:operW P op a h K):NdOp P op a h K:=by
 obtain ⟨C,v,h1,HC,hv,hk⟩:=operW_ok k
 intro N ρ w act o ho H A next Q hn
 subst ho
 exact oper_wp W HC H A o hv (fun ρ1 w1 v' r1 r2 r3 r4=>hn v h1 ρ1 w1 v' hk r1 r2 r3 r4)
theorem ndop_call {op:Op} {f:FuncId} {args:List Value} {K:Value→Hp→Prop} (hcal:callee' a op=some (f,args)) (s:Sns P f args h K):NdOp P op a h K:=by
 intro N ρ w act o ho H A next Q hn
 obtain ⟨⟨fn,c,hf,hb,hname⟩,hcall⟩:=s
 subst ho
 obtain ⟨dst,op,ty,pos,after,guard⟩:=o
 simp only at hcal
 unfold callee' at hcal
 split at hcal
 ·rename_i cc
  split at hcal
  ·rename_i fo hco
   split at hcal
   ·rename_i g first captured l hfo hl
    injection hcal with hcal
    injection hcal with hc1 hc2
    subst hc1;subst hc2
    have hfr:=A.ev hfo
    generalize hcv:act.eval fo=cv at hfr
    cases hfr with
    | @func _ _ _ f' c' hfi hca =>
    have hargs:VRs ρ l (cc.args.map act.eval).toList:=by simpa using A.evList hl
    have hall:VRs ρ (first.toList++l++captured.toList) (f'++cc.args.map act.eval++c').toList:=by
     simp only [Array.toList_append]
     exact (hfi.append hargs).append hca
    have hrun:(execOp act.eval { dst:=dst,op:=.call cc,type:=ty,pos:=pos,after:=after,guard:=guard }).run P w=.ok (.enter g (f'++cc.args.map act.eval++c')) w:=by
     have hname':¬fn.name = "runtime.NumGoroutine" := by simpa using hname
     simp [execOp,resolve,hco,hcv,Deferred.ofValue,invoke,callFunc,hf,hname',hb]
    unfold Oper.wp
    rw [hrun,Oper.upon_enter]
    refine (hcall ρ N w _ H hall).mono ?_
    rintro e w1 ⟨v,h1,ρ1,v',k,rfl,r1,r2,r3,r4⟩
    exact hn v h1 ρ1 w1 v' k r1 r3 r2 r4
   ·cases hcal
  ·cases hcal
 ·cases hcal
def unseen (seen:List Nat) (es:List MapEntry):List MapEntry:=es.filter fun e => !(seen.any fun b=>Nat.beq b e.born)
def NextN (h:Hp) (it:Value) (K:Value→Hp→Prop):Prop:=∃b m since seen last es clock,it=.pointer (some ⟨b,0,none⟩)∧h.objs.get b=some (.mIter (some m) since seen last)∧h.map? m=some (es,clock) ∧
 (seen.isEmpty||es.isEmpty || !(es.all fun e=>Nat.ble last e.born))=true∧(∀e∈es,e.born<since) ∧
 (unseen seen es=[]→K (.tuple #[.bool false]) h)∧∀e∈unseen seen es,K (.tuple #[.bool true,e.key,e.val]) (h.put b (.mIter (some m) since (seen++[e.born]) clock))
theorem choose_ok {q:Question} {n:Nat} (hq:q=.mapNext n) (hn:0<n) (w:World):∃j w',(choose q).run P w=.ok j w'∧j<n∧∃d,w'={ w with drawn:=d }:=by
 subst hq
 by_cases hf:(Question.mapNext n).forced=true
 ·exact ⟨0,w,by rw [Go.run_choose,if_pos hf],hn,w.drawn,rfl⟩
 ·exact ⟨(w.tape w.drawn (.mapNext n)) % n,{ w with drawn:=w.drawn+1 },by rw [Go.run_choose,if_neg hf];rfl,Nat.mod_lt _ hn,_,rfl⟩
theorem MRs_at:∀{l l':List MapEntry},MRs ρ l l'→∀(j:Nat) (e':MapEntry),l'[j]? = some e'→∃e,l[j]? = some e∧VR ρ e.key e'.key∧VR ρ e.val e'.val∧e'.born=e.born
 | _,_,.nil,j,e',h=>by simp at h
 | _,_,.cons a b c k,0,e',h=>by
   simp at h
   subst h
   exact ⟨_,rfl,a,b,c⟩
 | _,_,.cons a b c k,j+1,e',h=>by
   obtain ⟨e,h1,h2⟩:=MRs_at k j e' (by simpa using h)
   exact ⟨e,by simpa using h1,h2⟩
theorem next_any (H:HR P ρ N h w) {x x':Value} (hx:VR ρ x x') {ty:TypeId} {K:Value→Hp→Prop} (k:NextN h x K) :
  ∃v h1 ρ1 w1 v',K v h1∧ρ.le ρ1∧(Instr.next x' false ty).run P w=.ok v' w1∧VR ρ1 v v'∧HR P ρ1 N h1 w1∧Below N w w1:=by
 obtain ⟨b,m,since,seen,last,es,clock,rfl,hobj,hmap,hq,hold,k0,k1⟩:=k
 cases hx with
 | @ptr _ p' i hp =>
 have hi:=hp.2.1
 obtain ⟨o',ho,hR⟩:=H.obj b _ i hobj (fun r hr=>by rw [hobj] at hr;cases hr) hi
 cases o'<;>simp only [ObjR] at hR
 rename_i m' since' seen' st'
 obtain ⟨hm,rfl,hseen,rfl,hs0⟩:=hR
 cases m' with
 | none=>simp at hm
 | some m' =>
 obtain ⟨j,hj,rfl⟩:=hm
 have hz:i.s+0=0:=by omega
 have hget:=run_getObj (P:=P) ho (fun _ _ _ e=>by cases e)
 have hset:=fun o'=>setObj_run (P:=P) (o':=o') ho (fun _ _ _ e=>by cases e)
 obtain ⟨es',hw,hMR,_⟩:=H.map? hmap hj
 have hget2:=run_getMap (P:=P) hw
 have q1:(!seen'.isEmpty && !es'.isEmpty&&es'.all (fun e=>decide (e.born≥st')))=false:=by
  have e1:seen'.isEmpty=seen.isEmpty:=by rw [←hseen];simp
  have e2:es'.isEmpty=es.isEmpty:=by
   have:=hMR.length
   rw [Bool.eq_iff_iff,Array.isEmpty_iff,List.isEmpty_iff,←Array.toList_eq_nil_iff,←List.length_eq_zero_iff,←List.length_eq_zero_iff,this]
  have e3:es'.all (fun e=>decide (e.born≥st'))=es.all fun e=>Nat.ble st' e.born:=by
   rw [←Array.all_toList]
   refine all_MRs (fun e e' hb => ?_) hMR
   rw [hb,Bool.eq_iff_iff]
   simp
  rw [e1,e2,e3]
  cases h1:seen.isEmpty<;>cases h2:es.isEmpty<;>cases h3:(es.all fun e=>Nat.ble st' e.born)<;>simp_all
 have hleft:MRs ρ (unseen seen es) (es'.filter fun e => !seen'.contains e.born).toList:=by
  rw [Array.toList_filter]
  refine hMR.filter (fun e e' hb => ?_)
  rw [hb,←hseen,←contains_any]
  simp
 generalize hL':(es'.filter fun e => !seen'.contains e.born)=L' at hleft
 have hall:∀e∈unseen seen es,e.born<since':=fun e he=>hold e (List.mem_filter.1 he).1
 generalize hL:unseen seen es=L at hleft k0 k1 hall
 have hold':∀e'∈L'.toList,e'.born<since':=by
  intro e' he'
  obtain ⟨n,hn⟩:=List.getElem?_of_mem he'
  obtain ⟨e,h1,_,_,h4⟩:=MRs_at hleft n e' hn
  rw [h4]
  exact hall e (List.mem_of_getElem? h1)
 have f1:L'.filter (fun e=>decide (e.born<since'))=L':=by
  apply Array.ext'
  rw [Array.toList_filter,List.filter_eq_self]
  exact fun e he=>decide_eq_true (hold' e he)
 have f2:L'.filter (fun e=>decide (e.born≥since'))=#[]:=by
  apply Array.ext'
  rw [Array.toList_filter,List.filter_eq_nil_iff]
  intro e he
  have:=hold' e he
  simp
  omega
 by_cases hnil:L=[]
 ·have hn':L'=#[]:=by
   apply Array.ext'
   rw [hnil] at hleft
   cases hc:L'.toList with
   | nil=>rfl
   | cons x r=>rw [hc] at hleft;cases hleft
  refine ⟨_,_,ρ,w,_,k0 hnil,Rho.le_refl ρ,?_,.tuple (c:=#[.bool false]) (c':=#[.bool false]) (.cons (.bool _) .nil),H,Below.refl _ _⟩
  rw [hp.fn,hz]
  simp only [Instr.next,Sem.run_bind,hget,Result.andThen_ok,hget2,q1,Bool.false_eq_true,if_false,Sem.run_pure,hL',f1,f2,hn']
  simp [Question.forced]
 ·have hlen:=hleft.length
  have hpos:0<L'.size:=by
   rw [←Array.length_toList]
   have:0<L.length:=List.length_pos_iff.2 hnil
   omega
  have hne:L'.isEmpty=false:=by simpa using fun e=>by rw [e] at hpos;exact absurd hpos (Nat.lt_irrefl _)
  have hcand:(if L'.isEmpty=true then #[none] else #[])++(L'++#[]).map some=L'.map some:=by rw [hne];simp
  obtain ⟨n,w',hch,hn,d,rfl⟩:=choose_ok (P:=P) (q:=.mapNext (L'.map some).size) (n:=L'.size) (by rw [Array.size_map]) hpos w
  obtain ⟨e,h1,h2,h3,h4⟩:=MRs_at hleft n L'[n] (by rw [Array.getElem?_toList,Array.getElem?_eq_getElem hn])
  obtain ⟨r1,r2⟩:=(H.drewn d).put_alone (o:=.mIter (some m) since' (seen++[e.born]) clock) (o':=.mapIter (some j.b) since' (seen'.push L'[n].born) clock) hi hobj (fun _ e=>by cases e) (fun _ e=>by cases e)
   ⟨⟨j,hj,rfl⟩,rfl,by rw [Array.toList_push,hseen,h4],rfl,hs0⟩
  have hset':=fun o'=>setObj_run (P:=P) (w:={ w with drawn:=d }) (o':=o') ho (fun _ _ _ e=>by cases e)
  refine ⟨_,_,ρ,_,_,k1 e (List.mem_of_getElem? h1),Rho.le_refl ρ,?_,.tuple (c:=#[.bool true,e.key,e.val]) (c':=#[.bool true,L'[n].key,L'[n].val]) (.cons (.bool _) (.cons h2 (.cons h3 .nil))),r1,⟨r2.os,r2.tape,r2.output,r2.size,r2.block⟩⟩
  rw [hp.fn,hz]
  simp only [Instr.next,Sem.run_bind,hget,Result.andThen_ok,hget2,q1,Bool.false_eq_true,if_false,Sem.run_pure,hL',f1,f2,hcand,hch]
  simp [hn,hset']
end Go.Ev
end
section
namespace Go.Ev
open Go.RowKit
variable {P:Program} {ρ:Rho} {N:Bs} {h:Hp} {w:World} {a:Ev.A} {act:Act}
def Nd (P:Program) (c:Code) (a:Ev.A) (h:Hp) (Q:Ex→Ev.A→Hp→Prop):Prop :=
 ∀(N:Bs) (ρ:Rho) (w:World) (act:Act),HR P ρ N h w→ActR ρ a act→∀Qm:Exit→Act→World→Prop,
  (∀e a1 h1 ρ1 w1 act1,Q e a1 h1→a1.n=a.n→ρ.le ρ1→ActR ρ1 a1 act1→HR P ρ1 N h1 w1→Below N w w1→Qm e.to act1 w1)→c.wp P Qm act w
theorem nd_then (W:WfP P) {c:Code} {Q:Ex→Ev.A→Hp→Prop} (k:Then P c a h Q):Nd P c a h Q:=by
 obtain ⟨e,a1,h1,r,hn,hq⟩:=k
 intro N ρ w act H A Qm hQ
 exact (runs_both (N:=N) W r).1 ρ w act H A Qm (fun ρ1 w1 act1 r1 r2 r3 r4=>hQ e a1 h1 ρ1 w1 act1 hq hn r1 r2 r3 r4)
def isNext:Op→Bool
 | .next _ false=>true
 | _=>false
def nextOf (a:Ev.A):Op→Option Value
 | .next x false=>a.ev x
 | _=>none
def opN (P:Program) (op:Op) (a:Ev.A) (h:Hp) (K:Value→Hp→Prop):Prop :=
 wif (isReader op) (opt (reader' P h a op) fun v=>K v h)
  (wcall (callee' a op) (fun f args=>∃R:Value→Hp→Prop,Sns P f args h R∧∀v h1,R v h1→K v h1) (wif (isNext op) (opt (nextOf a op) fun v=>NextN h v K) (opt (writer' P h a op) fun p=>K p.1 p.2)))
theorem opN_ok (W:WfP P) {op:Op} {K:Value→Hp→Prop} (k:opN P op a h K):NdOp P op a h K:=by
 unfold opN wif wcall at k
 split at k
 ·rename_i hr
  exact ndop_det W (by unfold operW wif;rw [hr];exact k)
 ·rename_i hr
  split at k
  ·rename_i f args hc
   obtain ⟨R,s,hk⟩:=k
   exact ndop_call hc (s.mono hk)
  ·rename_i hc
   split at k
   ·rename_i hx
    obtain ⟨it,rfl⟩:∃it,op=.next it false:=by
     unfold isNext at hx
     split at hx
     ·exact ⟨_,rfl⟩
     ·cases hx
    obtain ⟨v,hv,hk⟩:=opt_ex k
    intro N ρ w act o ho H A next Q hn
    have hv':=A.ev (show a.ev it=some v from hv)
    obtain ⟨u,h1,ρ1,w1,v',q,r1,r2,r3,r4,r5⟩:=next_any (ty:=o.type) H hv' hk
    obtain ⟨dst,op',ty,pos,after,guard⟩:=o
    simp only at ho r2
    subst ho
    unfold Oper.wp
    have hrun:(execOp act.eval { dst:=dst,op:=.next it false,type:=ty,pos:=pos,after:=after,guard:=guard }).run P w=.ok (.value v') w1:=by
     simp [execOp,r2]
    rw [hrun]
    exact hn u h1 ρ1 w1 v' q r1 r3 r4 r5
   ·exact ndop_det W (by unfold operW wif wcall;rw [hr,hc];exact k)
def opsN (P:Program) (all:List Oper):List Oper→Ev.A→Hp→(Ev.A→Hp→Prop)→Prop
 | [],a,h,K=>K a h
 | o::r,a,h,K=>wif (wanted' all a o) (opN P o.op a h fun v h1=>opsN P all r (a.set o.dst v) h1 K) (opsN P all r (a.set o.dst undef') h K)
theorem opsN_wp (W:WfP P) {n:Nat} {ops:Array Oper} {Q:Exit→Act→World→Prop} {K:Ev.A→Hp→Prop}:∀(r pre:List Oper),ops.toList=pre++r→r.all (fun o=>dstOk n o.dst)=true→∀{ρ:Rho} {h:Hp} {w:World} {a:Ev.A} {act:Act},
  a.n=n→HR P ρ N h w→ActR ρ a act→opsN P ops.toList r a h K →
  (∀a1 h1 ρ1 w1 act1,K a1 h1→a1.n=n→ρ.le ρ1→ActR ρ1 a1 act1→HR P ρ1 N h1 w1→Below N w w1→Q .normal act1 w1)→wpOps P ops Q (List.range' pre.length r.length) act w:=by
 intro r
 induction r with
 | nil =>
   intro pre hp hd ρ h w a act hn H A hs hQ
   simp only [List.length_nil,List.range'_zero,wpOps]
   exact hQ a h ρ w act hs hn (Rho.le_refl ρ) A H (Below.refl _ _)
 | cons o r ih =>
   intro pre hp hd ρ h w a act hn H HA hs hQ
   simp only [List.all_cons,Bool.and_eq_true] at hd
   have ho:ops[pre.length]? = some o:=by
    rw [←Array.getElem?_toList,hp]
    simp
   rw [List.length_cons,List.range'_succ,wpOps]
   have go:∀(v:Value) (h1:Hp) (ρ1:Rho) (w1:World) (v':Value),opsN P ops.toList r (a.set o.dst v) h1 K→ρ.le ρ1→VR ρ1 v v'→HR P ρ1 N h1 w1→Below N w w1→wpOps P ops Q (List.range' (pre.length+1) r.length) (act.put o.dst v') w1:=by
    intro v h1 ρ1 w1 v' hk r1 r2 r3 r4
    have:=ih (pre++[o]) (by rw [hp];simp) hd.2 ((Ev.A.set_n _ _ _).trans hn) r3 ((HA.mono r1).put r2 (Ev.A.put_ok v hd.1 hn)) hk (fun a1 h2 ρ2 w2 act2 q0 qn s1 s2 s3 s4=>hQ a1 h2 ρ2 w2 act2 q0 qn (Rho.le_trans r1 s1) s2 s3 (r4.trans s4))
    simpa using this
   rw [ho]
   simp only []
   simp only [opsN] at hs
   rw [wanted_eq HA ops o] at hs
   unfold wif at hs
   split at hs
   ·rename_i hw
    rw [if_pos hw]
    exact .inl (opN_ok W hs N ρ w act o rfl H HA _ _ (fun v h1 ρ1 w1 v' q r1 r2 r3 r4=>go v h1 ρ1 w1 v' q r1 r2 r3 r4))
   ·rename_i hw
    rw [if_neg (by rw [hw];simp)]
    exact go undef' h ρ w undef hs (Rho.le_refl ρ) (.tuple .nil) H (Below.refl _ _)
theorem nd_loop {n:Nat} {b:Code} {Q:Ex→Ev.A→Hp→Prop} (I:Nat→Ev.A→Hp→Prop)
  (step:∀m a h,a.n=n→I m a h→Nd P b a h fun e a1 h1=>match e with
   | .normal=>∃m1,m1<m∧I m1 a1 h1
   | .exit j=>Q (.exit j) a1 h1
   | .ret=>Q .ret a1 h1) (m:Nat) (a:Ev.A) (h:Hp) (hn:a.n=n) (hi:I m a h):Nd P (.loop b) a h Q:=by
 have key:∀(k m:Nat) (a:Ev.A) (h:Hp),m<k→a.n=n→I m a h→∀(N:Bs) (ρ:Rho) (w:World) (act:Act),HR P ρ N h w→ActR ρ a act→∀Qm:Exit→Act→World→Prop,
   (∀e a1 h1 ρ1 w1 act1,Q e a1 h1→a1.n=a.n→ρ.le ρ1→ActR ρ1 a1 act1→HR P ρ1 N h1 w1→Below N w w1→Qm e.to act1 w1)→Code.rounds P b Qm k act w:=by
  intro k
  induction k with
  | zero=>exact fun m a h hm=>absurd hm (Nat.not_lt_zero _)
  | succ k ih =>
    intro m a h hm hn hi N ρ w act H A Qm hQ
    rw [rounds_succ]
    refine step m a h hn hi N ρ w act H A _ (fun e a1 h1 ρ1 w1 act1 q qn r1 r2 r3 r4 => ?_)
    cases e with
    | normal =>
      obtain ⟨m1,hlt,hi1⟩:=q
      exact ih m1 a1 h1 (by omega) (qn.trans hn) hi1 N ρ1 w1 act1 r3 r2 Qm (fun e a2 h2 ρ2 w2 act2 q0 qn2 s1 s2 s3 s4=>hQ e a2 h2 ρ2 w2 act2 q0 (qn2.trans qn) (Rho.le_trans r1 s1) s2 s3 (r4.trans s4))
    | exit j=>exact hQ (.exit j) a1 h1 ρ1 w1 act1 q qn r1 r2 r3 r4
    | ret=>exact hQ .ret a1 h1 ρ1 w1 act1 q qn r1 r2 r3 r4
 intro N ρ w act H A Qm hQ
 exact wp_loop_rounds (m+1) (key (m+1) m a h (Nat.lt_succ_self _) hn hi N ρ w act H A Qm hQ)
def ndc (P:Program):Code→Ev.A→Hp→(Ex→Ev.A→Hp→Prop)→Prop
 | .skip,a,h,Q=>Q .normal a h
 | .label _,a,h,Q=>Q .normal a h
 | .region _ ops false,a,h,Q=>opsN P ops.toList ops.toList a h (Q .normal)
 | .region id ops true,a,h,Q=>Nd P (.region id ops true) a h Q
 | .seq x y,a,h,Q=>ndc P x a h fun e a1 h1=>match e with
   | .normal=>ndc P y a1 h1 Q
   | .exit j=>Q (.exit j) a1 h1
   | .ret=>Q .ret a1 h1
 | .cond x t f,a,h,Q=>opt (a.ev x) fun v=>isB v fun b=>wcond b (ndc P t a h Q) (ndc P f a h Q)
 | .block id b,a,h,Q=>ndc P b a h fun e a1 h1=>match e with
   | .normal=>Q .normal a1 h1
   | .exit j=>wcond (j==id) (Q .normal a1 h1) (Q (.exit j) a1 h1)
   | .ret=>Q .ret a1 h1
 | .loop b,a,h,Q=>Nd P (.loop b) a h Q
 | .scope b,a,h,Q=>ndc P b a h Q
 | .exit id,a,h,Q=>Q (.exit id) a h
 | .ret,a,h,Q=>Q .ret a h
 | _,_,_,_=>False
theorem ndc_ok (W:WfP P) {n:Nat}:∀(c:Code) {a:Ev.A} {h:Hp} {Q:Ex→Ev.A→Hp→Prop},dstsOk n c=true→a.n=n→ndc P c a h Q→Nd P c a h Q:=by
 intro c
 induction c with
 | skip=>exact fun _ _ k N ρ w act H A Qm hQ=>wp_skip (hQ .normal _ _ ρ w act k rfl (Rho.le_refl ρ) A H (Below.refl _ _))
 | label l=>exact fun _ _ k N ρ w act H A Qm hQ=>wp_label (hQ .normal _ _ ρ w act k rfl (Rho.le_refl ρ) A H (Below.refl _ _))
 | region id ops d =>
   intro a h Q hd hn k
   cases d with
   | false =>
     intro N ρ w act H A Qm hQ
     refine wp_region ?_
     have:=opsN_wp (N:=N) (Q:=Qm) W ops.toList [] (by simp) hd hn H A k (fun a1 h1 ρ1 w1 act1 q qn r1 r2 r3 r4=>hQ .normal a1 h1 ρ1 w1 act1 q (qn.trans hn.symm) r1 r2 r3 r4)
     simpa [List.range_eq_range'] using this
   | true =>
     exact k
 | seq x y ihx ihy =>
   intro a h Q hd hn k N ρ w act H A Qm hQ
   simp only [dstsOk] at hd
   split at hd
   ·rename_i hx
    refine wp_seq ?_
    refine ihx hx hn k N ρ w act H A _ (fun e a1 h1 ρ1 w1 act1 q qn r1 r2 r3 r4 => ?_)
    cases e with
    | normal=>exact ihy hd (qn.trans hn) q N ρ1 w1 act1 r3 r2 Qm (fun e a2 h2 ρ2 w2 act2 q0 qn2 s1 s2 s3 s4=>hQ e a2 h2 ρ2 w2 act2 q0 (qn2.trans qn) (Rho.le_trans r1 s1) s2 s3 (r4.trans s4))
    | exit j=>exact hQ (.exit j) a1 h1 ρ1 w1 act1 q qn r1 r2 r3 r4
    | ret=>exact hQ .ret a1 h1 ρ1 w1 act1 q qn r1 r2 r3 r4
   ·cases hd
 | cond x t f iht ihf =>
   intro a h Q hd hn k N ρ w act H A Qm hQ
   simp only [dstsOk] at hd
   split at hd
   ·rename_i hx
    obtain ⟨v,hv,k⟩:=opt_ex k
    obtain ⟨b,rfl,k1,k2⟩:=isB_ex k
    have hv:=A.ev hv
    generalize hcv:act.eval _=cv at hv
    cases hv with
    | bool b =>
    cases b with
    | true=>exact wp_cond_true hcv (iht hx hn (k1 rfl) N ρ w act H A Qm hQ)
    | false=>exact wp_cond_false hcv (ihf hd hn (k2 rfl) N ρ w act H A Qm hQ)
   ·cases hd
 | block id b ih =>
   intro a h Q hd hn k N ρ w act H A Qm hQ
   refine wp_block ?_
   refine ih (by simpa [dstsOk] using hd) hn k N ρ w act H A _ (fun e a1 h1 ρ1 w1 act1 q qn r1 r2 r3 r4 => ?_)
   cases e with
   | normal=>exact hQ .normal a1 h1 ρ1 w1 act1 q qn r1 r2 r3 r4
   | exit j =>
     by_cases e:j=id
     ·subst e
      simp only [Ex.to,Exit.inBlock,if_true]
      exact hQ .normal a1 h1 ρ1 w1 act1 (q.1 (by simp)) qn r1 r2 r3 r4
     ·simp only [Ex.to,Exit.inBlock,e,if_false]
      exact hQ (.exit j) a1 h1 ρ1 w1 act1 (q.2 (by simpa using e)) qn r1 r2 r3 r4
   | ret=>exact hQ .ret a1 h1 ρ1 w1 act1 q qn r1 r2 r3 r4
 | loop b ih=>exact fun _ _ k=>k
 | scope b ih =>
   intro a h Q hd hn k N ρ w act H A Qm hQ
   refine wp_scope_straight ?_
   refine ih (by simpa [dstsOk] using hd) hn k N ρ w act H A _ (fun e a1 h1 ρ1 w1 act1 q qn r1 r2 r3 r4 => ?_)
   cases e with
   | normal=>exact hQ .normal a1 h1 ρ1 w1 act1 q qn r1 r2 r3 r4
   | exit j=>exact hQ (.exit j) a1 h1 ρ1 w1 act1 q qn r1 r2 r3 r4
   | ret=>exact hQ .ret a1 h1 ρ1 w1 act1 q qn r1 r2 r3 r4
 | exit id=>exact fun _ _ k N ρ w act H A Qm hQ=>wp_exit (hQ (.exit id) _ _ ρ w act k rfl (Rho.le_refl ρ) A H (Below.refl _ _))
 | ret=>exact fun _ _ k N ρ w act H A Qm hQ=>wp_ret (hQ .ret _ _ ρ w act k rfl (Rho.le_refl ρ) A H (Below.refl _ _))
 | _=>exact fun _ _ k=>k.elim
theorem sns_of (W:WfP P) {f:FuncId} {fn:Func} {c:Code} (hf:P.funcs[f]? = some fn) (hb:fn.body=some c) (hname:(fn.name == "runtime.NumGoroutine")=false) {n:Nat} (hn:fn.ntmps=n) (hd:dstsOk n c=true) {args:List Value}
  (hlen:Nat.ble args.length n=true) {R:Value→Hp→Prop}
  (k:∀a:Ev.A,a.n=n→(∀t,a.get t=match args[t]? with|some v=>v|none=>undef')→ndc P c a h fun e a1 h1=>match e with
   | .exit _=>False
   | _=>opt (results' P h1 a1 fn.results.toList) fun vs=>R (resOf vs) h1):Sns P f args h R:=by
 subst hn
 have hg:∀t,(⟨argsOf args 0 .lf,fn.ntmps⟩:Ev.A).get t=match args[t]? with|some v=>v|none=>undef':=by
  intro t
  simp only [A.get,args_get,Nat.zero_le,if_true,Nat.sub_zero,Tr.get_lf]
  cases args[t]? <;> rfl
 have k1:=ndc_ok W c hd rfl (k _ rfl hg)
 refine ⟨⟨fn,c,hf,hb,hname⟩,?_⟩
 intro ρ N w args' H hA
 have h1':args.length≤fn.ntmps:=by simpa using hlen
 have A:=act_enter hA h1'
 refine calls_of_wp hf hb ?_
 refine k1 N ρ w _ H A _ (fun e a1 h1 ρ1 w1 act1 q _ r1 r2 r3 r4 => ?_)
 have fin:∀vs,results' P h1 a1 fn.results.toList=some vs→R (resOf vs) h1→act1.defers=[]∧∃v',(results fn act1.tmps).run P w1=.ok v' w1∧∃v h1 ρ1 v'',R v h1∧Ending.returned v'=.returned v''∧ρ.le ρ1∧HR P ρ1 N h1 w1∧VR ρ1 v v''∧Below N w w1:=by
  intro vs hv hR
  refine ⟨r2.defers,?_⟩
  obtain ⟨vs',f1,f2⟩:=results_run r3 r2 hv
  have harr:((fn.results.mapM (fun|.tmp t=>pure (act1.tmps.getD t undef)|.cell a t=>do loadVar t (←asAddr (act1.tmps.getD a undef)):ResultVar→Sem Value))).run P w1=.ok vs'.toArray w1:=by
   rw [Array.mapM_eq_mapM_toList,Sem.run_map]
   erw [f1]
   rfl
  unfold results
  simp only [Sem.run_bind]
  erw [harr]
  simp only [Result.andThen_ok]
  cases f2 with
  | nil=>exact ⟨_,by simp,_,h1,ρ1,_,hR,rfl,r1,r3,.tuple .nil,r4⟩
  | @cons u u' l l' hu hl2 =>
    cases hl2 with
    | nil=>exact ⟨_,by simp,_,h1,ρ1,_,hR,rfl,r1,r3,hu,r4⟩
    | @cons u2 u2' l2 l2' hu2 hl3=>exact ⟨.tuple (u'::u2'::l2').toArray,by simp,_,h1,ρ1,_,hR,rfl,r1,r3,.tuple (.cons hu (.cons hu2 hl3)),r4⟩
 cases e with
 | exit j=>exact q.elim
 | normal =>
   obtain ⟨vs,hv,hR⟩:=opt_ex q
   exact fin vs hv hR
 | ret =>
   obtain ⟨vs,hv,hR⟩:=opt_ex q
   exact fin vs hv hR
def CallT (P:Program) (f:FuncId) (args:List Value) (h:Hp) (K:Value→Hp→Prop) (_:Tag K):Prop:=∃R:Value→Hp→Prop,Sns P f args h R∧∀v h1,R v h1→K v h1
def NextT (h:Hp) (it:Value) (K:Value→Hp→Prop) (_:Tag K):Prop:=NextN h it K
def Nc (P:Program) (c:Code) (a:Ev.A) (h:Hp) (Q:Ex→Ev.A→Hp→Prop) (_:Tag c) (_:Tag Q):Prop:=ndc P c a h Q
def No (P:Program) (all r:List Oper) (a:Ev.A) (h:Hp) (K:Ev.A→Hp→Prop) (_:Tag all) (_:Tag r) (_:Tag K):Prop:=opsN P all r a h K
def Dn (P:Program) (id:Nat) (ops:List Oper) (a:Ev.A) (h:Hp) (Q:Ex→Ev.A→Hp→Prop) (_:Tag ops) (_:Tag Q):Prop:=Nd P (.region id ops.toArray true) a h Q
def Nt (P:Program) (c:Code) (a:Ev.A) (h:Hp) (Q:Ex→Ev.A→Hp→Prop) (_:Tag c) (_:Tag Q):Prop:=Nd P c a h Q
section
theorem Nc_skip (a:Ev.A) (h:Hp) (Q:Ex→Ev.A→Hp→Prop) (t:Tag Code.skip) (u:Tag Q):Nc P .skip a h Q t u=Q .normal a h:=nr rfl
theorem Nc_region (id:Nat) (ops:List Oper) (a:Ev.A) (h:Hp) (Q:Ex→Ev.A→Hp→Prop) (t:Tag (Code.region id ops.toArray false)) (u:Tag Q):Nc P (.region id ops.toArray false) a h Q t u=No P ops ops a h (Q .normal) ⟨⟩ ⟨⟩ ⟨⟩:=nr rfl
theorem Nc_draw (id:Nat) (ops:List Oper) (a:Ev.A) (h:Hp) (Q:Ex→Ev.A→Hp→Prop) (t:Tag (Code.region id ops.toArray true)) (u:Tag Q):Nc P (.region id ops.toArray true) a h Q t u=Dn P id ops a h Q ⟨⟩ ⟨⟩:=nr rfl
theorem Nc_seq (x y:Code) (a:Ev.A) (h:Hp) (Q:Ex→Ev.A→Hp→Prop) (t:Tag (x.seq y)) (u:Tag Q):Nc P (.seq x y) a h Q t u=Nc P x a h (fun e a1 h1=>match e with
 | .normal=>Nc P y a1 h1 Q ⟨⟩ ⟨⟩
 | .exit j=>Q (.exit j) a1 h1
 | .ret=>Q .ret a1 h1) ⟨⟩ ⟨⟩:=nr rfl
theorem Nc_cond (x:Operand) (t f:Code) (a:Ev.A) (h:Hp) (Q:Ex→Ev.A→Hp→Prop) (p:Tag (Code.cond x t f)) (u:Tag Q):Nc P (.cond x t f) a h Q p u=Opt (a.ev x) (fun v=>IsB v (fun b=>Wcond b (Nc P t a h Q ⟨⟩ ⟨⟩) (Nc P f a h Q ⟨⟩ ⟨⟩) ⟨⟩ ⟨⟩) ⟨⟩) ⟨⟩:=by unfold Opt IsB Wcond;exact rfl
theorem Nc_block (id:Nat) (b:Code) (a:Ev.A) (h:Hp) (Q:Ex→Ev.A→Hp→Prop) (t:Tag (Code.block id b)) (u:Tag Q):Nc P (.block id b) a h Q t u=Nc P b a h (fun e a1 h1=>match e with
 | .normal=>Q .normal a1 h1
 | .exit j=>Wcond (j==id) (Q .normal a1 h1) (Q (.exit j) a1 h1) ⟨⟩ ⟨⟩
 | .ret=>Q .ret a1 h1) ⟨⟩ ⟨⟩:=by unfold Wcond;exact rfl
theorem Nc_loop (b:Code) (a:Ev.A) (h:Hp) (Q:Ex→Ev.A→Hp→Prop) (t:Tag b.loop) (u:Tag Q):Nc P (.loop b) a h Q t u=Nt P (.loop b) a h Q ⟨⟩ ⟨⟩:=nr rfl
theorem Nc_scope (b:Code) (a:Ev.A) (h:Hp) (Q:Ex→Ev.A→Hp→Prop) (t:Tag b.scope) (u:Tag Q):Nc P (.scope b) a h Q t u=Nc P b a h Q ⟨⟩ ⟨⟩:=nr rfl
theorem Nc_exit (id:Nat) (a:Ev.A) (h:Hp) (Q:Ex→Ev.A→Hp→Prop) (t:Tag (Code.exit id)) (u:Tag Q):Nc P (.exit id) a h Q t u=Q (.exit id) a h:=nr rfl
theorem Nc_ret (a:Ev.A) (h:Hp) (Q:Ex→Ev.A→Hp→Prop) (t:Tag Code.ret) (u:Tag Q):Nc P .ret a h Q t u=Q .ret a h:=nr rfl
theorem No_nil (all:List Oper) (a:Ev.A) (h:Hp) (K:Ev.A→Hp→Prop) (t:Tag all) (s:Tag ([]:List Oper)) (u:Tag K):No P all [] a h K t s u=K a h:=nr rfl
theorem No_cons (all:List Oper) (o:Oper) (r:List Oper) (a:Ev.A) (h:Hp) (K:Ev.A→Hp→Prop) (t:Tag all) (s:Tag (o::r)) (u:Tag K):No P all (o::r) a h K t s u =
 Wif (wanted' all a o) (Wif (isReader o.op) (Opt (reader' P h a o.op) (fun v=>No P all r (a.set o.dst v) h K ⟨⟩ ⟨⟩ ⟨⟩) ⟨⟩)
  (Wcall (callee' a o.op) (fun f args=>CallT P f args h (fun v h1=>No P all r (a.set o.dst v) h1 K ⟨⟩ ⟨⟩ ⟨⟩) ⟨⟩)
   (Wif (isNext o.op) (Opt (nextOf a o.op) (fun v=>NextT h v (fun v h1=>No P all r (a.set o.dst v) h1 K ⟨⟩ ⟨⟩ ⟨⟩) ⟨⟩) ⟨⟩) (Opt (writer' P h a o.op) (fun p=>No P all r (a.set o.dst p.1) p.2 K ⟨⟩ ⟨⟩ ⟨⟩) ⟨⟩) ⟨⟩ ⟨⟩) ⟨⟩ ⟨⟩) ⟨⟩ ⟨⟩)
  (No P all r (a.set o.dst undef') h K ⟨⟩ ⟨⟩ ⟨⟩) ⟨⟩ ⟨⟩:=by unfold Wif Opt Wcall;exact rfl
end
theorem call_snd {f:FuncId} {args:List Value} {K:Value→Hp→Prop} {t:Tag K} {v:Value} {h1:Hp} (s:Snd P f args h v h1) (k:K v h1):CallT P f args h K t :=
 ⟨fun v' h'=>v'=v∧h'=h1,s.sns ⟨rfl,rfl⟩,fun _ _ e=>by rw [e.1,e.2];exact k⟩
theorem call_sns {f:FuncId} {args:List Value} {K:Value→Hp→Prop} {t:Tag K} {R:Value→Hp→Prop} (s:Sns P f args h R) (k:∀v h1,R v h1→K v h1):CallT P f args h K t:=⟨R,s,k⟩
theorem dn_of_dw (W:WfP P) {id:Nat} {ops:List Oper} {Q:Ex→Ev.A→Hp→Prop} {t:Tag ops} {u:Tag Q} (k:Dw P ops a h (Q .normal) ⟨⟩ ⟨⟩):Dn P id ops a h Q t u:=by
 unfold Dw at k
 obtain ⟨C,a1,h1,HC,hs,hn1,hq⟩:=k
 intro N ρ w act H A Qm hQ
 exact draw_wp W HC H A (by simpa using hs) (fun ρ1 w1 act1 r1 r2 r3 r4=>hQ .normal a1 h1 ρ1 w1 act1 hq hn1 r1 r2 r3 r4)
theorem nt_of_th (W:WfP P) {c:Code} {Q:Ex→Ev.A→Hp→Prop} {t:Tag c} {u:Tag Q} (k:Th P c a h Q t u):Nt P c a h Q t u:=by
 unfold Th at k
 exact nd_then W k
theorem nloop_go (W:WfP P) {n:Nat} {b:Code} (hd:dstsOk n b=true) {Q:Ex→Ev.A→Hp→Prop} {t:Tag b.loop} {u:Tag Q} (I:Nat→Ev.A→Hp→Prop)
  (step:∀m a h,a.n=n→I m a h→Nc P b a h (fun e a1 h1=>match e with
   | .normal=>∃m1,m1<m∧I m1 a1 h1
   | .exit j=>Q (.exit j) a1 h1
   | .ret=>Q .ret a1 h1) ⟨⟩ ⟨⟩) (m:Nat) (a:Ev.A) (h:Hp) (hn:a.n=n) (hi:I m a h):Nt P (.loop b) a h Q t u :=
 nd_loop (n:=n) I (fun m a h hn hi=>ndc_ok W b hd hn (step m a h hn hi)) m a h hn hi
theorem sns_go (W:WfP P) {f:FuncId} {fn:Func} {c:Code} (hf:P.funcs[f]? = some fn) (hb:fn.body=some c) (hname:(fn.name == "runtime.NumGoroutine")=false) {n:Nat} (hn:fn.ntmps=n) (hd:dstsOk n c=true) {args:List Value}
  (hlen:Nat.ble args.length n=true) {R:Value→Hp→Prop}
  (k:∀a:Ev.A,a.n=n→(∀t,a.get t=match args[t]? with|some v=>v|none=>undef')→Nc P c a h (fun e a1 h1=>match e with
   | .exit _=>False
   | _=>Opt (results' P h1 a1 fn.results.toList) (fun vs=>R (resOf vs) h1) ⟨⟩) ⟨⟩ ⟨⟩):Sns P f args h R :=
 sns_of W hf hb hname hn hd hlen (fun a hn hg=>by
  have:=k a hn hg
  unfold Nc Opt at this
  exact this)
attribute [irreducible] CallT NextT Nc No Nt Dn
attribute [go_sem] Nc_skip Nc_region Nc_draw Nc_seq Nc_cond Nc_block Nc_loop Nc_scope Nc_exit Nc_ret No_nil No_cons isNext nextOf
end Go.Ev
end
section
namespace Go.Ev.G24
open Go.RowKit Go.Proofs
variable {r:Ro}
theorem bornAt_ents:∀(ks:List ByteArray) (i j k:Nat),j<ks.length→bornAt (i+j) (entsT ks i) k=some (k+j)
 | [],i,j,k,h=>absurd h (Nat.not_lt_zero _)
 | n::ks,i,0,k,_=>by simp [entsT,bornAt]
 | n::ks,i,j+1,k,h=>by
   have ih:=bornAt_ents ks (i+1) j (k+1) (by simpa using h)
   have e:Nat.beq i (i+(j+1))=false:=by
    cases hb:Nat.beq i (i+(j+1)) with
    | false=>rfl
    | true=>have:=Nat.eq_of_beq_eq_true hb;omega
   rw [show i+(j+1)=i+1+j by omega] at e ⊢
   simp only [entsT,bornAt,e]
   rw [ih,show k+1+j=k+(j+1) by omega]
theorem unseen_mem {sb:List Nat} {ks:List ByteArray} {e:MapEntry}:e∈unseen sb (entsT ks 0)↔∃j s,ks[j]? = some s∧e=⟨.string s,.bool true,j⟩∧j∉sb:=by
 unfold unseen
 rw [List.mem_filter]
 constructor
 ·rintro ⟨h1,h2⟩
  obtain ⟨j,hj⟩:=List.getElem?_of_mem h1
  rw [entsT_get] at hj
  cases hs:ks[j]? with
  | none=>rw [hs] at hj;cases hj
  | some s =>
    rw [hs,Option.map_some,Nat.zero_add] at hj
    injection hj with hj
    refine ⟨j,s,hs,hj.symm,fun c => ?_⟩
    subst hj
    simp only [Bool.not_eq_true',List.any_eq_false] at h2
    exact h2 j c (by simp)
 ·rintro ⟨j,s,h1,rfl,h2⟩
  refine ⟨List.mem_of_getElem? (i:=j) (by rw [entsT_get,h1,Option.map_some,Nat.zero_add]),?_⟩
  simp only [Bool.not_eq_true',List.any_eq_false]
  intro x hx hb
  have:x=j:=Nat.eq_of_beq_eq_true hb
  subst this
  exact h2 hx
theorem ents_old {ks:List ByteArray}:∀e∈entsT ks 0,e.born<ks.length:=by
 intro e he
 obtain ⟨j,hj⟩:=List.getElem?_of_mem he
 rw [entsT_get] at hj
 cases hs:ks[j]? with
 | none=>rw [hs] at hj;cases hj
 | some s =>
   rw [hs,Option.map_some,Nat.zero_add] at hj
   injection hj with hj
   subst hj
   exact (List.getElem?_eq_some_iff.1 hs).1
def keysAt (ks:List ByteArray) (sb:List Nat):List ByteArray:=sb.map fun j=>ks.getD j ⟨#[]⟩
theorem keysAt_range (ks:List ByteArray):keysAt ks (List.range ks.length)=ks:=by
 apply List.ext_getElem
 ·simp [keysAt]
 ·intro i h1 h2
  simp [keysAt,h2]
theorem keysAt_perm {ks:List ByteArray} {sb:List Nat} (h:sb.Perm (List.range ks.length)):(keysAt ks sb).Perm ks:=by
 have:=h.map (fun j=>ks.getD j ⟨#[]⟩)
 show (sb.map _).Perm ks
 exact this.trans (by rw [show (List.range ks.length).map (fun j=>ks.getD j ⟨#[]⟩)=ks from keysAt_range ks])
theorem sortB_perm {a b:List ByteArray} (h:a.Perm b):sortB a=sortB b:=by
 unfold sortB
 congr 1
 unfold sortL
 have h':=h.map (fun s:ByteArray=>s.data.toList)
 refine List.Perm.eq_of_pairwise (le:=fun a b=>(decide (a≤b))=true) (fun a b _ _ h1 h2 => ?_) (List.pairwise_mergeSort ?_ ?_ _) (List.pairwise_mergeSort ?_ ?_ _) (((List.mergeSort_perm _ _).trans h').trans (List.mergeSort_perm _ _).symm)
 ·simp only [decide_eq_true_eq] at h1 h2
  exact List.le_antisymm h1 h2
 ·intro a b c h1 h2
  simp only [decide_eq_true_eq] at *
  exact List.le_trans h1 h2
 ·intro a b
  simp only [Bool.or_eq_true,decide_eq_true_eq]
  exact List.le_total a b
 ·intro a b c h1 h2
  simp only [decide_eq_true_eq] at *
  exact List.le_trans h1 h2
 ·intro a b
  simp only [Bool.or_eq_true,decide_eq_true_eq]
  exact List.le_total a b
def firstOk (l:List Rule) (s:ByteArray):Prop:=rightG l=true∧∃em,Found l em∧withB l em s=true
def FirstV (l:List Rule) (rule:ByteArray) (h:Hp) (v:Value) (h1:Hp):Prop:=Ext h h1 ∧
 ((firstOk l rule∧∃(em:List Bool) (s':StF) (nv:Value),Found l em∧RunsF l em (.part (ruleP rule)) (List.replicate l.length false,[]) s'∧v=.tuple #[nv,.int .i64 0]∧∀h2,Ext h1 h2→StrsAt h2 nv (sortB (keysOf s'.2)))∨(¬firstOk l rule∧v=.tuple #[.slice none 0 0,.int .i64 240]))
theorem keysOf_len:∀(log:List ByteArray) (ks:List ByteArray),(log.foldl addKey ks).length≤ks.length+log.length
 | [],ks=>by simp
 | s::log,ks=>by
   have:=keysOf_len log (addKey ks s)
   rw [List.foldl_cons,List.length_cons]
   have h2:(addKey ks s).length≤ks.length+1:=by
    unfold addKey
    split
    ·omega
    ·simp
   omega
theorem StrsAt.keep {h h1:Hp} {n0 f0:Nat} {ss:List ByteArray} {v:Value} (k:OwnE 9 h n0 f0 (strs ss) v) (x:Ext h h1):StrsAt h1 v ss:=(k.ext x).strsAt
set_option maxHeartbeats 8000000 in
set_option maxRecDepth 10000 in
theorem range_c {ks:List ByteArray} {h:Hp} {mm ib:Nat} (hkl:ks.length≤100000) (hb:h.base≤h.next) {n0 f0:Nat} (hn0:n0≤h.next) (hf0:f0≤h.nfam) (hM:MapK h mm ks) (hmn:n0≤mm) (hib:n0≤ib) (hib2:ib<h.next) (hmi:mm≠ib) (hI:h.objs.get ib=some (.mIter (some mm) ks.length [] ks.length))
  {a:Ev.A} {Q:Ex→Ev.A→Hp→Prop} (hn:a.n=43) (g10:a.get 10=.slice none 0 0) (g31:a.get 31=.pointer (some ⟨ib,0,none⟩))
  (hq:∀a1 h1 v ss,a1.n=43→(∀(S:Nat→Prop) (h0:Hp),ExtS S h0 h→h0.next≤n0→h0.nfam≤f0→ExtS S h0 h1)→ss.Perm ks→OwnE 9 h1 n0 f0 (strs ss) v→h1.base≤h1.next→a1.get 10=v→Q (.exit 0) a1 h1) :
  Nt Try.prog (bodyAt Try.f32 [1,1,1,1,1,1,0,1,0]) a h Q ⟨⟩ ⟨⟩:=by
 simp only [bodyAt,nav,Try.f32]
 refine nloop_go wf (n:=43) (by kernel_rfl) (fun m' a' h'=>∃(sb rest:List Nat) (v:Value),(sb++rest).Perm (List.range ks.length)∧m'=rest.length∧h'.base≤h'.next∧h.next≤h'.next∧h.nfam≤h'.nfam∧(∀(S:Nat→Prop) (h0:Hp),ExtS S h0 h→h0.next≤n0→h0.nfam≤f0→ExtS S h0 h') ∧
  MapK h' mm ks∧h'.objs.get ib=some (.mIter (some mm) ks.length sb ks.length)∧OwnE 9 h' n0 f0 (strs (keysAt ks sb)) v∧a'.get 10=v∧a'.get 31=.pointer (some ⟨ib,0,none⟩)) ?_ ks.length _ _ hn ⟨[],List.range ks.length,_,by simp,by simp,hb,Nat.le_refl _,Nat.le_refl _,fun _ _ x _ _=>x,hM,hI,.inl ⟨rfl,rfl⟩,g10,g31⟩
 rintro m' a' h' hn' ⟨sb,rest,v,hperm,rfl,hb',hnx,hnf,hkeep,hM',hI',hO',e10,e31⟩
 have hmap:h'.map? mm=some (entsT ks 0,ks.length):=by simp only [Hp.map?,hM'.2.2]
 have hnd:(sb++rest).Nodup:=hperm.nodup_iff.2 List.nodup_range
 simp -dsimp only [go_sem,e10,e31]
 unfold NextT
 refine ⟨ib,mm,ks.length,sb,ks.length,entsT ks 0,ks.length,rfl,hI',hmap,?_,ents_old,fun hnil => ?_,fun e he => ?_⟩
 ·cases hk:(entsT ks 0).isEmpty with
  | true=>simp
  | false =>
    have:((entsT ks 0).all fun e=>Nat.ble ks.length e.born)=false:=by
     rw [Bool.eq_false_iff]
     intro c
     obtain ⟨e,he⟩:=List.exists_mem_of_ne_nil _ (by simpa using hk:entsT ks 0≠[])
     have h1:=List.all_eq_true.1 c e he
     have h2:=ents_old e he
     have:=Nat.le_of_ble_eq_true h1
     omega
    rw [this]
    simp
 ·have hrest:rest=[]:=by
   cases rest with
   | nil=>rfl
   | cons j rest =>
     exfalso
     have hj:j∈List.range ks.length:=hperm.mem_iff.1 (by simp)
     have hjl:j<ks.length:=List.mem_range.1 hj
     have hjn:j∉sb:=fun c=>(List.nodup_append.1 hnd).2.2 j c j (.head _) rfl
     have:(⟨.string ks[j],.bool true,j⟩:MapEntry)∈unseen sb (entsT ks 0):=unseen_mem.2 ⟨j,ks[j],List.getElem?_eq_getElem hjl,rfl,hjn⟩
     rw [hnil] at this
     cases this
  subst hrest
  rw [List.append_nil] at hperm
  simp -dsimp only [go_sem,e10,e31]
  exact hq _ h' v (keysAt ks sb) (by simp -dsimp only [go_sem,hn']) hkeep (keysAt_perm hperm) hO' hb' (by simp -dsimp only [go_sem,e10])
 ·obtain ⟨j,s,hj,rfl,hjn⟩:=unseen_mem.1 he
  have hjl:j<ks.length:=(List.getElem?_eq_some_iff.1 hj).1
  have hjr:j∈rest:=by
   have:=hperm.mem_iff.2 (List.mem_range.2 hjl)
   rcases List.mem_append.1 this with c|c
   ·exact absurd c hjn
   ·exact c
  have hp2:((sb++[j])++rest.erase j).Perm (List.range ks.length):=by
   refine List.Perm.trans ?_ hperm
   rw [List.append_assoc]
   exact List.Perm.append_left sb (List.perm_cons_erase hjr).symm
  have hlen2:(rest.erase j).length<rest.length:=by
   rw [List.length_erase_of_mem hjr]
   have:=List.length_pos_of_mem hjr
   omega
  have hIt:(h'.put ib (.mIter (some mm) ks.length (sb++[j]) ks.length)).objs.get ib=some (.mIter (some mm) ks.length (sb++[j]) ks.length):=by rw [get_putH,if_pos rfl]
  have hx1:ExtS (Only ib) h' (h'.put ib (.mIter (some mm) ks.length (sb++[j]) ks.length)):=((Ext.refl h').toS (S:=Only ib)).put (b:=ib) (.inr rfl) _
  have hM1:=hM'.keepS hx1 (fun c=>hmi c)
  have hmap1:(h'.put ib (.mIter (some mm) ks.length (sb++[j]) ks.length)).map? mm=some (entsT ks 0,ks.length):=by simp only [Hp.map?,hM1.2.2]
  have hborn:=bornAt_ents ks 0 j 0 hjl
  simp only [Nat.zero_add] at hborn
  have hat:(entsT ks 0)[j]? = some ⟨.string s,.bool true,j⟩:=by rw [entsT_get,hj,Option.map_some,Nat.zero_add]
  have hent:entry' (h'.put ib (.mIter (some mm) ks.length (sb++[j]) ks.length)) (.pointer (some ⟨ib,0,none⟩))=some (.tuple #[.string s,.bool true]):=by
   have hgl:(sb++[j]).getLast? = some j:=by simp
   have hbq:Nat.beq ks.length ks.length=true:=by simp
   simp only [entry',hIt,hgl,hmap1,hborn,hbq,hat]
  have hO1:OwnE 9 (h'.put ib (.mIter (some mm) ks.length (sb++[j]) ks.length)) n0 f0 (strs (keysAt ks sb)) v:=by
   rcases hO' with q|⟨b,f,q1,q2,q3,q4,q5⟩
   ·exact .inl q
   ·refine .inr ⟨b,f,q1,q2,rowE_keep hx1 q3 (fun c => ?_),q4,q5⟩
    have c':b=ib:=c
    obtain ⟨row,o1,_⟩:=rowE_obj q3
    rw [c',hI'] at o1
    cases o1
  have hb1:(h'.put ib (.mIter (some mm) ks.length (sb++[j]) ks.length)).base≤(h'.put ib (.mIter (some mm) ks.length (sb++[j]) ks.length)).next:=hb'
  have hX6:=Ext.new (h'.put ib (.mIter (some mm) ks.length (sb++[j]) ks.length)) (CObj.cells ⟨[.string s],9,0,0,false⟩)
  have hW:=own_new hb1 9 [.string s]
  have hlk:(keysAt ks sb).length≤100000:=by
   have h1:=hperm.length_eq
   rw [List.length_append,List.length_range] at h1
   unfold keysAt
   rw [List.length_map]
   omega
  have hkeep1:∀(S:Nat→Prop) (h0:Hp),ExtS S h0 h→h0.next≤n0→h0.nfam≤f0→ExtS S h0 (h'.put ib (.mIter (some mm) ks.length (sb++[j]) ks.length)):=fun S h0 x q1 q2=>(hkeep S h0 x q1 q2).put (.inl (Nat.le_trans q1 hib)) _
  obtain ⟨v',h7,ha7,hO7,⟨hext7,hk7,hn7⟩,hb7,hf7,ho7⟩:=apps25m (ds:=[.string s]) rfl (hO1.ext hX6) (src_own hW (n:=1) (c:=1) rfl) (by rw [hX6.base];exact Nat.le_trans hb1 hX6.next) (Nat.le_trans hn0 (Nat.le_trans hnx hX6.next)) (Nat.le_trans hf0 (Nat.le_trans hnf hX6.nfam)) (by rw [strs_len];simp;omega)
  simp -dsimp only [go_sem,hent,e10,e31,bs25 1 (by decide),repeatN,builtin',ha7]
  refine ⟨(rest.erase j).length,hlen2,sb++[j],rest.erase j,v',hp2,rfl,?_,?_,?_,?_,?_,?_,?_,rfl⟩
  ·rw [hb7,hX6.base]
   exact Nat.le_trans hb1 (Nat.le_trans hX6.next hn7)
  ·exact Nat.le_trans hnx (Nat.le_trans hX6.next hn7)
  ·exact Nat.le_trans hnf (Nat.le_trans hX6.nfam hf7)
  ·exact fun S h0 x q1 q2=>hext7 S h0 ((hkeep1 S h0 x q1 q2).trans hX6.toS) q1 q2
  ·have q:=hM1.keep hX6
   exact ⟨Nat.lt_of_lt_of_le q.1 hn7,by rw [hb7];exact q.2.1,ho7 _ _ q.1 q.2.2 (fun r c=>by cases c)⟩
  ·have hl7:ib<h'.next:=Nat.lt_of_lt_of_le hib2 hnx
   exact ho7 _ _ (Nat.lt_of_lt_of_le hl7 hX6.next) (by rw [hX6.objs ib hl7];exact hIt) (fun r c=>by cases c)
  ·have:keysAt ks (sb++[j])=keysAt ks sb++[s]:=by
    unfold keysAt
    rw [List.map_append]
    simp [List.getD_eq_getElem?_getD,hj]
   rw [this,strs_app]
   exact hO7
end Go.Ev.G24
end
section
namespace Go.Ev.G24
open Go.RowKit Go.Proofs
variable {r:Ro}
set_option maxRecDepth 10000 in
theorem range116 {h:Hp} {mm:Nat} {ks:List ByteArray} (hM:MapK h mm ks):range' Try.prog h 116 (.map (some mm))=some (.pointer (some ⟨h.next,0,none⟩),h.newH (.mIter (some mm) ks.length [] ks.length)):=by
 have hm:h.map? mm=some (entsT ks 0,ks.length):=by simp only [Hp.map?,hM.2.2]
 simp only [range',Try.underlying116,hm,new_eq]
theorem ruleP_ro {rule:ByteArray}:RoPart r (ruleP rule) [.string ⟨#[114,117,108,101]⟩,.string rule,.slice none 0 0] :=
 .mk _ _ [] none 0 0 0 (fun _=>[]) (Nat.le_refl _) (by simp) (fun c=>absurd rfl c) (fun i p e=>by simp at e) (fun i p e=>by simp at e) rfl
theorem ruleP_named {names:List ByteArray} {rule:ByteArray} (h:idxOf names rule<names.length):named names (ruleP rule):=by
 unfold ruleP named
 refine ⟨fun _=>h,fun c => ?_,by unfold namedL;trivial⟩
 rcases c with c|c|c<;>exact absurd c (by decide)
set_option maxHeartbeats 16000000 in
set_option maxRecDepth 10000 in
theorem firstL_s {l:List Rule} {Av:Option Addr} {c b o:Nat} {css:Nat→List Value} (R:RoRules r l Av c b o css) (hft:fitsG l) (rule:ByteArray) (hlog:∀em s',Found l em→RunsF l em (.part (ruleP rule)) (List.replicate l.length false,[]) s'→(keysOf s'.2).length≤100000) (h:Hp) (hrom:h.rom=r) (hb:h.base≤h.next) :
  Sns Try.prog 32 [.agg #[.slice Av l.length c],.string rule] h (FirstV l rule h):=by
 refine sns_go wf Try.func32 rfl rfl (n:=43) rfl (by kernel_rfl) rfl ?_
 intro a hn hg
 have hr:Try.f32.results.toList=[.tmp 4,.tmp 5]:=rfl
 have g0:=hg 0
 have g1:=hg 1
 clear hg
 simp only [List.getElem?_cons_zero,List.getElem?_cons_succ] at g0 g1
 have hP:=own_new hb 24 [.slice Av l.length c]
 have hx0:=Ext.new h (CObj.cells ⟨[.slice Av l.length c],24,0,0,false⟩)
 simp -dsimp only [go_sem,g0,g1,loads_own hP]
 have hhn:(h.newH (CObj.cells ⟨[.slice Av l.length c],24,0,0,false⟩)).next=h.next+1:=rfl
 generalize h.newH (CObj.cells ⟨[.slice Av l.length c],24,0,0,false⟩)=h2 at hP hx0 hhn ⊢
 have hb2:h2.base≤h2.next:=by rw [hx0.base];exact Nat.le_trans hb hx0.next
 have hrom2:h2.rom=r:=hx0.rom.trans hrom
 obtain ⟨_,h3,hs3,hx3,hcase⟩:=with_c R hft rule h2 hrom2 hb2
 refine call_snd hs3 ?_
 have hb3:h3.base≤h3.next:=by rw [hx3.base];exact Nat.le_trans hb2 hx3.next
 have hx03:=hx0.trans hx3
 rcases hcase with ⟨rfl,hbad⟩|⟨hrg,bk,m,eb,em,rfl,q1,q2,q3,hB,hF,hW⟩
 ·obtain ⟨vS,vO,vX,vB,vR⟩:=var_ok hb3 (e:=52) (c0:=[.string ⟨#[]⟩,.string ⟨#[]⟩,.slice none 0 0]) (c1:=[.string ⟨#[]⟩,.string ⟨#[]⟩,.slice none 0 0]) rfl rfl (by simp)
  simp -dsimp only [go_sem,vS,Bool.not_false,hr]
  refine ⟨hx03.trans vX,.inr ⟨?_,rfl⟩⟩
  rintro ⟨e1,em,e2,e3⟩
  obtain ⟨em',e4,e5⟩:=hbad e1
  rw [e4.uniq e2,e3] at e5
  cases e5
 ·have hok:firstOk l rule:=⟨hrg,em,hF,hW⟩
  obtain ⟨hfr,hnG⟩:=rightG_named hrg
  have hnl:(nms l).length=l.length:=by simp [nms]
  have hidx:idxOf (nms l) rule<(nms l).length:=by
   unfold withB at hW
   rw [Bool.and_eq_true] at hW
   rw [hnl]
   exact of_decide_eq_true hW.2
  obtain ⟨vS,vO,vX,vB,vR⟩:=var_ok hb3 (e:=52) (c0:=[.string ⟨#[]⟩,.string ⟨#[]⟩,.slice none 0 0]) (c1:=[.string ⟨#[114,117,108,101]⟩,.string rule,.slice none 0 0]) rfl rfl (by simp)
  simp -dsimp only [go_sem,vS,Bool.not_true]
  have hvn:h3.next<(h3.var 52 [.string ⟨#[]⟩,.string ⟨#[]⟩,.slice none 0 0] [.string ⟨#[114,117,108,101]⟩,.string rule,.slice none 0 0]).next:=vO.2.1
  generalize h3.var 52 [.string ⟨#[]⟩,.string ⟨#[]⟩,.slice none 0 0] [.string ⟨#[114,117,108,101]⟩,.string rule,.slice none 0 0]=h4 at vS vO vX vB vR hvn ⊢
  have hx04:=hx03.trans vX
  have hP4:=own_ext (hx3.trans vX) hP
  have hB4:=hB.ext vX
  have hx5:=Ext.new h4 (.map [] 0)
  have hx6:=Ext.new (h4.newH (.map [] 0)) (CObj.cells { c:=(List.replicate l.length false).map .bool,e:=4,fam:=0,base:=0,grown:=false })
  have hb5:(h4.newH (.map [] 0)).base≤(h4.newH (.map [] 0)).next:=Nat.le_succ_of_le vB
  have htb:=own_new hb5 4 ((List.replicate l.length false).map .bool)
  have hn5:(h4.newH (.map [] 0)).next=h4.next+1:=rfl
  have hM5:MapK (h4.newH (.map [] 0)) h4.next []:=⟨Nat.lt_succ_self _,vB,by rw [get_newH,if_pos rfl];rfl⟩
  have hM6:=hM5.keep hx6
  have hx05:=hx04.trans hx5
  have hx06:=hx05.trans hx6
  refine dn_of_dw wf (Dw_text (n:=43) [[],[],[],[2],[2,3],[2,3,4],[],[0,1,2,3,4,5,6]] (by simp -dsimp only [go_sem,hn]) (by kernel_rfl) ?_)
  simp -dsimp only [go_sem,next_newH,loads_own (own_ext hx5 vO),loads_own (own_ext (hx5.trans hx6) vO),load_own (own_ext hx5 hP4),load_own (own_ext (hx5.trans hx6) hP4),ms105 l.length l.length (Nat.le_refl _) R.hb,repeat_bool,sameN_sliceA R.hs]
  have hb6:((h4.newH (.map [] 0)).newH (CObj.cells { c:=(List.replicate l.length false).map .bool,e:=4,fam:=0,base:=0,grown:=false })).base≤((h4.newH (.map [] 0)).newH (CObj.cells { c:=(List.replicate l.length false).map .bool,e:=4,fam:=0,base:=0,grown:=false })).next:=Nat.le_succ_of_le hb5
  have hrom6:((h4.newH (.map [] 0)).newH (CObj.cells { c:=(List.replicate l.length false).map .bool,e:=4,fam:=0,base:=0,grown:=false })).rom=r:=hx06.rom.trans hrom
  have hB6:=(hB4.ext hx5).ext hx6
  generalize (h4.newH (.map [] 0)).newH (CObj.cells { c:=(List.replicate l.length false).map .bool,e:=4,fam:=0,base:=0,grown:=false })=h6 at htb hM6 hx6 hx06 hb6 hrom6 hB6 ⊢
  rw [hn5] at htb
  have bl1:=hB4.own.2.1
  have bl2:=hB4.map.1
  have bl3:=hB4.row.2.1
  have AP:ApartF bk m eb (h4.next+1) h4.next:=⟨by omega,by omega,by omega,by omega,by omega,by omega,by omega⟩
  obtain ⟨_,h7,hs7,hx7,s',hR7,hS7,_⟩:=first_c R hnG AP (em:=em) _ _ (ruleP rule) (Nat.lt_succ_self _) h6 _ (List.replicate l.length false,[]) hrom6 hb6 hB6 ruleP_ro (ruleP_named hidx) ⟨htb,hM6,by simp⟩ (Nat.le_refl _)
  refine ⟨_,h7,hs7,?_⟩
  have hx07:Ext h h7:=(hx06.toS.trans hx7).ext (fun x hx c=>by
   have:=hx04.next
   rcases c with c|c<;>omega)
  have hb7:h7.base≤h7.next:=by rw [hx07.base];exact Nat.le_trans hb hx07.next
  have hx8:=Ext.new h7 (.mIter (some h4.next) (keysOf s'.2).length [] (keysOf s'.2).length)
  have hx08:=hx07.trans hx8
  have hkl:=hlog em s' hF hR7
  simp -dsimp only [go_sem,range116 hS7.map]
  have hmm:=hS7.map.1
  refine range_c (ks:=keysOf s'.2) (mm:=h4.next) (ib:=h7.next) (n0:=h.next) (f0:=h.nfam) hkl (Nat.le_succ_of_le hb7) (Nat.le_trans hx07.next hx8.next) hx07.nfam (hS7.map.keep hx8) hx04.next hx07.next (Nat.lt_succ_self _) (by omega) (by rw [get_newH,if_pos rfl]) (by simp -dsimp only [go_sem,hn]) (by simp -dsimp only [go_sem]) (by simp -dsimp only [go_sem]) (fun a9 h9 v9 ss hn9 hk9 hp9 hO9 hb9 g10 => ?_)
  simp -dsimp only [go_sem,g10]
  have hsl:ss.length<4611686018427387904:=by rw [hp9.length_eq];omega
  obtain ⟨h10,hs10,hO10,hk10⟩:=own_sort hO9 hb9 hsl
  refine call_snd hs10 ?_
  simp -dsimp only [go_sem,g10,hr]
  have hx09:ExtS (fun _=>False) h h9:=hk9 _ _ hx08.toS (Nat.le_refl _) (Nat.le_refl _)
  have hx10:Ext h h10:=(hk10 _ _ hx09 (Nat.le_refl _) (Nat.le_refl _)).ext (fun _ _ c=>c)
  refine ⟨hx10,.inl ⟨hok,em,s',v9,hF,hR7,rfl,?_⟩⟩
  rw [←sortB_perm hp9]
  exact fun h2 x=>(hO10.ext x).strsAt
end Go.Ev.G24
end
section
namespace Go.Ev
open Go.RowKit
variable {P:Program} {h:Hp}
def usesHeap2 (op:Op):Bool:=usesHeap op||isMaker op
theorem reader_of {op:Op} (h:isReader2 true op=false):isReader op=false:=by
 unfold isReader2 at h
 split at h
 ·cases h
 ·assumption
theorem heapless2 {op:Op} (hr:isReader2 true op=true) (hu:usesHeap2 op=false) (g:Nat) (h h1:Hp) (a:Ev.A):reader2' P g h a op=reader2' P g h1 a op:=by
 unfold usesHeap2 at hu
 rw [Bool.or_eq_false_iff] at hu
 have h1:isReader op=true:=by
  unfold isReader2 at hr
  split at hr
  ·assumption
  ·rw [hu.2] at hr;cases hr
 simp only [reader2',h1]
 exact heapless hu.1 _ _ _
def pdM (P:Program) (B:Nat) (h:Hp):List Pd→Prop→Prop
 | [],K=>K
 | p::l,K=>opt (reader2' P (B+p.i) h p.a p.op) fun u=>wif (sameV 9 p.v u) (pdM P B h l K) False
def pastM (P:Program) (B i:Nat) (a:Ev.A) (op:Op) (v:Value) (w:List Nat):List (Nat×Hp)→Prop→Prop
 | [],K=>K
 | (e,h)::l,K=>wif (hasL w e) (pastM P B i a op v w l K) (opt (reader2' P (B+i) h a op) fun u=>wif (sameV 9 v u) (pastM P B i a op v w l K) False)
def DM (P:Program) (B:Nat) (all:List Oper):List (List Nat)→Nat→List Oper→List (Nat×Hp)→List Cl→List Pd→Ev.A→Hp→(Ev.A→Hp→Prop)→Prop
 | _,_,[],_,_,_,a,h,K=>K a h
 | [],_,_::_,_,_,_,_,_,_=>False
 | w::ws,i,o::r,gp,cs,pend,a,h,K =>
   wif (wanted' all a o)
    (wif (isReader2 true o.op)
     (opt (reader2' P (B+i) h a o.op) fun v=>wif (sameV 9 v v) (wif (usesHeap2 o.op) (pastM P B i a o.op v w gp (DM P B all ws (i+1) r gp cs (⟨i,a,o.op,v⟩::pend) (a.set o.dst v) h K)) (DM P B all ws (i+1) r gp cs pend (a.set o.dst v) h K)) False)
     (wcall (callee' a o.op) (fun f args=>∃v h1,Snd P f args h v h1∧Fresh f args h cs∧pdM P B h1 (dropP w pend) (DM P B all ws (i+1) r (gp++[(i,h)]) (⟨f,args,h,v,h1⟩::cs) (dropP w pend) (a.set o.dst v) h1 K))
      (opt (writer' P h a o.op) fun p=>pdM P B p.2 (dropP w pend) (DM P B all ws (i+1) r (gp++[(i,h)]) cs (dropP w pend) (a.set o.dst p.1) p.2 K))))
    (wif (isReader2 true o.op) (DM P B all ws (i+1) r gp cs pend (a.set o.dst undef') h K) (DM P B all ws (i+1) r (gp++[(i,h)]) cs (dropP w pend) (a.set o.dst undef') h K))
def AlikeM (P:Program) (B i:Nat) (h:Hp) (a:Ev.A) (op:Op) (v:Value):Prop:=∃u,reader2' P (B+i) h a op=some u∧sameV 9 v u=true
def pdsM (P:Program) (B:Nat) (h:Hp) (l:List Pd):Prop:=∀p∈l,AlikeM P B p.i h p.a p.op p.v
theorem pdM_ok {B:Nat} {K:Prop}:∀{l:List Pd},pdM P B h l K→pdsM P B h l∧K
 | [],k=>⟨fun p hp=>(by cases hp),k⟩
 | p::l,k=>by
   obtain ⟨u,hu,k⟩:=opt_ex k
   unfold wif at k
   split at k
   ·rename_i hs
    obtain ⟨k1,k2⟩:=pdM_ok k
    refine ⟨fun q hq => ?_,k2⟩
    cases hq with
    | head=>exact ⟨u,hu,hs⟩
    | tail _ hq=>exact k1 q hq
   ·exact k.elim
theorem pastM_ok {B i:Nat} {a:Ev.A} {op:Op} {v:Value} {w:List Nat} {K:Prop}:∀{l:List (Nat×Hp)},pastM P B i a op v w l K→(∀g∈l,has w g.1=true∨AlikeM P B i g.2 a op v)∧K
 | [],k=>⟨fun p hp=>(by cases hp),k⟩
 | (e,h)::l,k=>by
   simp only [pastM,wif] at k
   split at k
   ·rename_i hw
    obtain ⟨k1,k2⟩:=pastM_ok k
    refine ⟨fun q hq => ?_,k2⟩
    cases hq with
    | head=>exact .inl (by rw [←hasL_eq];exact hw)
    | tail _ hq=>exact k1 q hq
   ·obtain ⟨u,hu,k⟩:=opt_ex k
    split at k
    ·rename_i hs
     obtain ⟨k1,k2⟩:=pastM_ok k
     refine ⟨fun q hq => ?_,k2⟩
     cases hq with
     | head=>exact .inr ⟨u,hu,hs⟩
     | tail _ hq=>exact k1 q hq
    ·exact k.elim
theorem stableM_app {ps:List (List Nat)} {B i:Nat} {a:Ev.A} {op:Op} {v:Value}:∀(gp gs:List (Nat×Hp)),(∀x∈gp,has (predsOf ps i) x.1=true∨AlikeM P B i x.2 a op v)→stable P (B+i) a op v i ps gs=true→stable P (B+i) a op v i ps (gp++gs)=true
 | [],gs,_,k=>k
 | (e,h)::gp,gs,hp,k=>by
   have ih:=stableM_app gp gs (fun x hx=>hp x (.tail _ hx)) k
   rw [List.cons_append]
   unfold stable
   split
   ·exact ih
   ·rename_i hw
    rcases hp _ (.head _) with q|⟨u,q1,q2⟩
    ·rw [q] at hw;cases hw
    ·simp only [q1,q2]
     split
     ·rfl
     ·exact ih
theorem stableM_all {ps:List (List Nat)} {B i:Nat} {a:Ev.A} {op:Op} {v:Value} (gs:List (Nat×Hp)) (hp:∀x∈gs,AlikeM P B i x.2 a op v):stable P (B+i) a op v i ps gs=true:=by
 have:=stableM_app (P:=P) (ps:=ps) (B:=B) (i:=i) gs [] (fun x hx=>.inr (hp x hx)) rfl
 simpa using this
theorem DM_go {B:Nat} {all:List Oper} {ps:List (List Nat)} (hf:fwdOk ps=true) {n:Nat}:∀(r:List Oper) (ws pre:List (List Nat)) (i:Nat) {gp:List (Nat×Hp)} {cs:List Cl} {pend:List Pd} {a:Ev.A} {h:Hp} {K:Ev.A→Hp→Prop},
  ps=pre++ws→pre.length=i→r.all (fun o=>dstOk n o.dst)=true→a.n=n→pdsM P B h pend→(∀p∈pend,p.i<i)→DM P B all ws i r gp cs pend a h K →
  ∃L a1 h1 gs,a1.n=n∧K a1 h1∧Known P L cs∧(∀p∈pend,stable P (B+p.i) p.a p.op p.v p.i ps gs=true) ∧
   ∀C,Knows C L→heaps P C true B all i r a h=some gs∧check P C true B all ps (gp++gs) i r a h=some (a1,h1)
 | [],ws,pre,i,gp,cs,pend,a,h,K,_,_,_,hn,hp,hpi,k=>by
   have k':K a h:=by
    cases ws<;>exact k
   refine ⟨[],a,h,[(i,h)],hn,k',⟨fun _ hc=>(by cases hc),.nil,fun _ hc=>(by cases hc)⟩,?_,fun C _=>⟨rfl,rfl⟩⟩
   intro p hpm
   exact stableM_all _ (fun x hx=>by
    cases hx with
    | head=>exact hp p hpm
    | tail _ hx=>cases hx)
 | o::r,[],_,_,_,_,_,_,_,_,_,_,_,_,_,_,k=>k.elim
 | o::r,w::ws,pre,i,gp,cs,pend,a,h,K,hps,hpre,hd,hn,hp,hpi,k=>by
   simp only [List.all_cons,Bool.and_eq_true] at hd
   obtain ⟨hd1,hd2⟩:=hd
   have hw:predsOf ps i=w:=by
    unfold predsOf
    rw [hps,List.getElem?_append_right (by omega),←hpre]
    simp
   have hps':ps=(pre++[w])++ws:=by rw [hps];simp
   have hpre':(pre++[w]).length=i+1:=by simp [hpre]
   have hpi':∀p∈pend,p.i<i+1:=fun p hp=>Nat.lt_succ_of_lt (hpi p hp)
   have eff:∀{C':List Cl} {v:Value} {h2:Hp},isReader2 true o.op=false→pdsM P B h2 (dropP w pend)→DM P B all ws (i+1) r (gp++[(i,h)]) C' (dropP w pend) (a.set o.dst v) h2 K →
     ∃L a1 h1 gs,a1.n=n∧K a1 h1∧Known P L C'∧(∀p∈pend,stable P (B+p.i) p.a p.op p.v p.i ps gs=true) ∧
      ∀C,Knows C L→step2' P C true all (B+i) o a h=some (a.set o.dst v,h2)→heaps P C true B all i (o::r) a h=some gs∧check P C true B all ps (gp++gs) i (o::r) a h=some (a1,h1):=by
    intro C' v h2 hr hpd hk
    obtain ⟨L,a1,h1,gs,q1,q2,q3,q4,q5⟩:=DM_go hf r ws (pre++[w]) (i+1) (n:=n) hps' hpre' hd2 ((A.set_n _ _ _).trans hn) hpd (fun p hp=>hpi' p (mem_dropP hp)) hk
    refine ⟨L,a1,h1,(i,h)::gs,q1,q2,q3,?_,?_⟩
    ·intro p hpm
     have hfw:=fwd hf (Nat.le_of_lt (hpi p hpm))
     obtain ⟨u,u1,u2⟩:=hp p hpm
     simp only [stable,hfw,u1,u2,hw]
     rcases not_dropP (w:=w) hpm with q|q
     ·split
      ·rfl
      ·exact q4 p q
     ·rw [q]
    ·intro C hC hs
     obtain ⟨z1,z2⟩:=q5 C hC
     refine ⟨?_,?_⟩
     ·simp only [heaps,hs,z1,hr]
     ·simp only [check,hs,hr]
      rw [show gp++(i,h)::gs=gp++[(i,h)]++gs by simp]
      exact z2
   have rd:∀{pend':List Pd} {v:Value},isReader2 true o.op=true→pdsM P B h pend'→(∀p∈pend',p.i<i+1)→(∀p∈pend,p∈pend')→DM P B all ws (i+1) r gp cs pend' (a.set o.dst v) h K →
     (∀gs,(∀p∈pend',stable P (B+p.i) p.a p.op p.v p.i ps gs=true)→wanted' all a o=true→∃v,reader2' P (B+i) h a o.op=some v∧stable P (B+i) a o.op v i ps (gp++gs)=true) →
     (∀C,step2' P C true all (B+i) o a h=some (a.set o.dst v,h)) →
     ∃L a1 h1 gs,a1.n=n∧K a1 h1∧Known P L cs∧(∀p∈pend,stable P (B+p.i) p.a p.op p.v p.i ps gs=true) ∧
      ∀C,Knows C L→heaps P C true B all i (o::r) a h=some gs∧check P C true B all ps (gp++gs) i (o::r) a h=some (a1,h1):=by
    intro pend' v hr hpd hpi2 hsub hk hst hstep
    obtain ⟨L,a1,h1,gs,q1,q2,q3,q4,q5⟩:=DM_go hf r ws (pre++[w]) (i+1) (n:=n) hps' hpre' hd2 ((A.set_n _ _ _).trans hn) hpd hpi2 hk
    refine ⟨L,a1,h1,gs,q1,q2,q3,fun p hp=>q4 p (hsub p hp),fun C hC => ?_⟩
    obtain ⟨z1,z2⟩:=q5 C hC
    have hs:=hstep C
    refine ⟨by simp only [heaps,hs,z1,hr],?_⟩
    simp only [check,hs,hr]
    cases hwd:wanted' all a o with
    | false=>exact z2
    | true =>
      obtain ⟨u,u1,u2⟩:=hst gs q4 hwd
      simp only [u1,u2]
      exact z2
   simp only [DM,wif,wcall] at k
   split at k
   ·rename_i hwd
    split at k
    ·rename_i hr
     obtain ⟨v,hv,k⟩:=opt_ex k
     split at k
     ·rename_i hs
      have hstep:∀C,step2' P C true all (B+i) o a h=some (a.set o.dst v,h):=by
       intro C
       simp only [step2',hwd,oper2',hr,hv,withH,A.put_ok v hd1 hn]
      split at k
      ·obtain ⟨k1,k⟩:=pastM_ok k
       refine rd hr ?_ ?_ (fun p hp=>.tail _ hp) k ?_ hstep
       ·intro p hpm
        cases hpm with
        | head=>exact ⟨v,hv,hs⟩
        | tail _ hpm=>exact hp p hpm
       ·intro p hpm
        cases hpm with
        | head=>exact Nat.lt_succ_self _
        | tail _ hpm=>exact hpi' p hpm
       ·intro gs hst _
        refine ⟨v,hv,stableM_app gp gs ?_ (hst _ (.head _))⟩
        intro x hx
        rw [hw]
        exact k1 x hx
      ·rename_i hu
       refine rd hr hp hpi' (fun p hp=>hp) k ?_ hstep
       intro gs _ _
       exact ⟨v,hv,stableM_all _ (fun x _=>⟨v,(heapless2 hr hu _ _ _ _).trans hv,hs⟩)⟩
     ·exact k.elim
    ·rename_i hr
     have hr1:=reader_of hr
     split at k
     ·rename_i f args hc
      obtain ⟨v,h2,s,hfr,k⟩:=k
      obtain ⟨k1,k⟩:=pdM_ok k
      obtain ⟨L,a1,h1,gs,q1,q2,q3,q4,q5⟩:=eff hr k1 k
      refine ⟨⟨f,args,h,v,h2⟩::L,a1,h1,gs,q1,q2,⟨?_,?_,?_⟩,q4,?_⟩
      ·intro c hc
       cases hc with
       | head=>exact s
       | tail _ hc=>exact q3.1 c hc
      ·refine .cons (fun d hd=>q3.2.2 d hd _ (.head _)) q3.2.1
      ·intro c hc d hd
       cases hc with
       | head=>exact fresh_ok hfr d hd
       | tail _ hc=>exact q3.2.2 c hc d (.tail _ hd)
      ·intro C hC
       refine q5 C (fun c hc=>hC c (.tail _ hc)) ?_
       have hcall:=hC _ (.head _)
       simp only at hcall
       simp only [step2',hwd,oper2',hr,oper',hr1,hc,hcall,A.put_ok v hd1 hn]
     ·rename_i hc
      obtain ⟨⟨v,h2⟩,s,k⟩:=opt_ex k
      obtain ⟨k1,k⟩:=pdM_ok k
      obtain ⟨L,a1,h1,gs,q1,q2,q3,q4,q5⟩:=eff hr k1 k
      refine ⟨L,a1,h1,gs,q1,q2,q3,q4,fun C hC=>q5 C hC ?_⟩
      simp only [step2',hwd,oper2',hr,oper',hr1,hc,s,A.put_ok v hd1 hn]
   ·rename_i hwd
    have hstep:∀C,step2' P C true all (B+i) o a h=some (a.set o.dst undef',h):=by
     intro C
     simp only [step2',hwd,A.put_ok undef' hd1 hn]
    split at k
    ·rename_i hr
     exact rd hr hp hpi' (fun p hp=>hp) k (fun _ _ e=>by rw [hwd] at e;cases e) hstep
    ·rename_i hr
     obtain ⟨L,a1,h1,gs,q1,q2,q3,q4,q5⟩:=eff hr (fun p hpm=>hp p (mem_dropP hpm)) k
     exact ⟨L,a1,h1,gs,q1,q2,q3,q4,fun C hC=>q5 C hC (hstep C)⟩
theorem checkM_sets {B:Nat} {C:Caller} {all:List Oper} {ps qs:List (List Nat)} (k:∀j e,has (predsOf ps j) e=has (predsOf qs j) e) (gs:List (Nat×Hp)):∀(r:List Oper) (i:Nat) (a:Ev.A) (h:Hp),check P C true B all ps gs i r a h=check P C true B all qs gs i r a h
 | [],_,_,_=>rfl
 | o::r,i,a,h=>by
   simp only [check,stable_sets k]
   cases step2' P C true all (B+i) o a h with
   | none=>rfl
   | some p=>simp only [checkM_sets k gs r]
def textOkM (n:Nat) (ps:List (List Nat)) (ops:List Oper):Bool:=match orderOk true ops,fwdOk ps,ops.all (fun o=>dstOk n o.dst),sameSets (preds ops) ps with
 | true,true,true,true=>true
 | _,_,_,_=>false
def laid (h:Hp) (k:Nat) (l:List (Nat×CObj)):Hp:=layAll h.next k l { h with next:=h.next+k }
theorem laid_wp (W:WfP P) {C:Caller} {ρ:Rho} {N:Bs} {w:World} {a:Ev.A} {act:Act} (HC:CallerOk P C) {ops:Array Oper} {id:Nat} {a1:Ev.A} {h1:Hp} (l:List (Nat×CObj)) (hord:orderOk true ops.toList=true) (H:HR P ρ N h w) (A:ActR ρ a act)
  (h0:drawn P C true h.next ops.toList a (laid h ops.size l)=some (a1,h1)) {Q:Exit→Act→World→Prop}
  (hQ:∀ ρ1 w1 act1,ρ.le ρ1→ActR ρ1 a1 act1→HR P ρ1 N h1 w1→Below N w w1→Q .normal act1 w1):(Code.region id ops true).wp P Q act w:=by
 have H1:=HR.room (n:=N.n) (g:=N.g) H ops.size
 have H2:=layAll_HR (base:=h.next) (k:=ops.size) (fun i hi=>.inr ⟨by omega,by omega⟩) l _ H1 (fun i hi r hr=>by
  have:=H.cover _ _ hr
  omega)
 refine drawn_wp (mk:=true) (base:=h.next) (N:=N) W HC hord (fun _ b hb=>(H.gho b hb).2) (H2.less (fun b hb => ?_)) A h0 hQ
 rcases hb with hb|⟨_,i,o,e1,e2,_,_⟩
 ·exact .inl hb
 ·have:i<ops.size:=(Array.getElem?_eq_some_iff.1 e2).1
  exact .inr ⟨by omega,by omega⟩
theorem DM_nd (W:WfP P) {ops:List Oper} {n:Nat} {ps:List (List Nat)} {a:Ev.A} {h:Hp} (l:List (Nat×CObj)) {id:Nat} {Q:Ex→Ev.A→Hp→Prop} (hn:a.n=n) (ho:textOkM n ps ops=true) (k:DM P h.next ops ps 0 ops [] [] [] a (laid h ops.length l) (Q .normal)) :
  Nd P (.region id ops.toArray true) a h Q:=by
 unfold textOkM at ho
 split at ho
 ·rename_i h1 h2 h3 hps
  obtain ⟨L,a1,h1',gs,q1,q2,q3,_,q5⟩:=DM_go h2 ops ps [] 0 (n:=n) rfl rfl h3 hn (fun _ hp=>by cases hp) (fun _ hp=>by cases hp) k
  obtain ⟨C,HC,hk⟩:=known_caller L q3
  obtain ⟨z1,z2⟩:=q5 C hk
  intro N ρ w act H A Qm hQ
  rw [List.nil_append] at z2
  refine laid_wp W HC l (by simpa using h1) H A (a1:=a1) (h1:=h1') (by simp only [drawn,List.size_toArray,z1,checkM_sets (sameSets_ok hps),z2]) (fun ρ1 w1 act1 r1 r2 r3 r4=>hQ .normal a1 h1' ρ1 w1 act1 q2 (q1.trans hn.symm) r1 r2 r3 r4)
 ·cases ho
def PdM (P:Program) (B:Nat) (h:Hp) (l:List Pd) (K:Prop) (_:Tag K):Prop:=pdM P B h l K
def PastM (P:Program) (B i:Nat) (a:Ev.A) (op:Op) (v:Value) (w:List Nat) (l:List (Nat×Hp)) (K:Prop) (_:Tag K):Prop:=pastM P B i a op v w l K
def DMt (P:Program) (B:Nat) (all:List Oper) (ws:List (List Nat)) (i:Nat) (r:List Oper) (gp:List (Nat×Hp)) (cs:List Cl) (pend:List Pd) (a:Ev.A) (h:Hp) (K:Ev.A→Hp→Prop) (_:Tag all) (_:Tag ws) (_:Tag r) (_:Tag K):Prop:=DM P B all ws i r gp cs pend a h K
section
attribute [local semireducible] Opt Wif Wcall Dn
variable {B:Nat}
theorem PdM_nil (K:Prop) (t:Tag K):PdM P B h [] K t=K:=nr rfl
theorem PdM_cons (p:Pd) (l:List Pd) (K:Prop) (t:Tag K):PdM P B h (p::l) K t=Opt (reader2' P (B+p.i) h p.a p.op) (fun u=>Wif (sameV 9 p.v u) (PdM P B h l K ⟨⟩) False ⟨⟩ ⟨⟩) ⟨⟩:=nr rfl
theorem PastM_nil (i:Nat) (a:Ev.A) (op:Op) (v:Value) (w:List Nat) (K:Prop) (t:Tag K):PastM P B i a op v w [] K t=K:=nr rfl
theorem PastM_cons (i:Nat) (a:Ev.A) (op:Op) (v:Value) (w:List Nat) (e:Nat) (h:Hp) (l:List (Nat×Hp)) (K:Prop) (t:Tag K):PastM P B i a op v w ((e,h)::l) K t =
 Wif (hasL w e) (PastM P B i a op v w l K ⟨⟩) (Opt (reader2' P (B+i) h a op) (fun u=>Wif (sameV 9 v u) (PastM P B i a op v w l K ⟨⟩) False ⟨⟩ ⟨⟩) ⟨⟩) ⟨⟩ ⟨⟩:=nr rfl
theorem DMt_nil (all:List Oper) (ws:List (List Nat)) (i:Nat) (gp:List (Nat×Hp)) (cs:List Cl) (pend:List Pd) (a:Ev.A) (h:Hp) (K:Ev.A→Hp→Prop) (t1:Tag all) (t2:Tag ws) (t3:Tag ([]:List Oper)) (t4:Tag K) :
  DMt P B all ws i [] gp cs pend a h K t1 t2 t3 t4=K a h:=by
 cases ws<;>exact nr rfl
theorem DMt_cons (all:List Oper) (w:List Nat) (ws:List (List Nat)) (i:Nat) (o:Oper) (r:List Oper) (gp:List (Nat×Hp)) (cs:List Cl) (pend:List Pd) (a:Ev.A) (h:Hp) (K:Ev.A→Hp→Prop) (t1:Tag all) (t2:Tag (w::ws)) (t3:Tag (o::r)) (t4:Tag K) :
 DMt P B all (w::ws) i (o::r) gp cs pend a h K t1 t2 t3 t4 =
 Wif (wanted' all a o)
  (Wif (isReader2 true o.op)
   (Opt (reader2' P (B+i) h a o.op) (fun v=>Wif (sameV 9 v v) (Wif (usesHeap2 o.op) (PastM P B i a o.op v w gp (DMt P B all ws (i+1) r gp cs (⟨i,a,o.op,v⟩::pend) (a.set o.dst v) h K ⟨⟩ ⟨⟩ ⟨⟩ ⟨⟩) ⟨⟩) (DMt P B all ws (i+1) r gp cs pend (a.set o.dst v) h K ⟨⟩ ⟨⟩ ⟨⟩ ⟨⟩) ⟨⟩ ⟨⟩) False ⟨⟩ ⟨⟩) ⟨⟩)
   (Wcall (callee' a o.op) (fun f args=>∃v h1,Snd P f args h v h1∧Fresh f args h cs∧PdM P B h1 (dropP w pend) (DMt P B all ws (i+1) r (gp++[(i,h)]) (⟨f,args,h,v,h1⟩::cs) (dropP w pend) (a.set o.dst v) h1 K ⟨⟩ ⟨⟩ ⟨⟩ ⟨⟩) ⟨⟩)
    (Opt (writer' P h a o.op) (fun p=>PdM P B p.2 (dropP w pend) (DMt P B all ws (i+1) r (gp++[(i,h)]) cs (dropP w pend) (a.set o.dst p.1) p.2 K ⟨⟩ ⟨⟩ ⟨⟩ ⟨⟩) ⟨⟩) ⟨⟩) ⟨⟩ ⟨⟩) ⟨⟩ ⟨⟩)
  (Wif (isReader2 true o.op) (DMt P B all ws (i+1) r gp cs pend (a.set o.dst undef') h K ⟨⟩ ⟨⟩ ⟨⟩ ⟨⟩) (DMt P B all ws (i+1) r (gp++[(i,h)]) cs (dropP w pend) (a.set o.dst undef') h K ⟨⟩ ⟨⟩ ⟨⟩ ⟨⟩) ⟨⟩ ⟨⟩) ⟨⟩ ⟨⟩:=nr rfl
theorem Dn_make (W:WfP P) {id:Nat} {ops:List Oper} {n:Nat} (ps:List (List Nat)) (l:List (Nat×CObj)) {a:Ev.A} {h:Hp} {Q:Ex→Ev.A→Hp→Prop} {t:Tag ops} {u:Tag Q} (hn:a.n=n) (ho:textOkM n ps ops=true)
 (k:DMt P h.next ops ps 0 ops [] [] [] a (laid h ops.length l) (Q .normal) ⟨⟩ ⟨⟩ ⟨⟩ ⟨⟩):Dn P id ops a h Q t u:=DM_nd W l hn ho k
end
attribute [irreducible] PdM PastM DMt
attribute [go_sem] PdM_nil PdM_cons PastM_nil PastM_cons DMt_nil DMt_cons usesHeap2 isReader2 isMaker reader2' maker'
end Go.Ev
end
section
namespace Go.Ev.G24
open Go.RowKit Go.Proofs
def ltB (x s:ByteArray):Bool:=bytesLt x.data.toList s.data.toList
def posB (ss:List ByteArray) (s:ByteArray):Nat:=ss.findIdx fun x => !ltB x s
def insB (ss:List ByteArray) (s:ByteArray):List ByteArray:=match ss[posB ss s]? with
 | some x=>if x.data.toList=s.data.toList then ss else ss.take (posB ss s)++[s]++ss.drop (posB ss s)
 | none=>ss.take (posB ss s)++[s]++ss.drop (posB ss s)
theorem posB_le (ss:List ByteArray) (s:ByteArray):posB ss s≤ss.length:=List.findIdx_le_length
theorem posB_lt {ss:List ByteArray} {s:ByteArray} {j:Nat} (h:j<posB ss s):∃hj:j<ss.length,ltB ss[j] s=true:=by
 have hj:j<ss.length:=Nat.lt_of_lt_of_le h (posB_le ss s)
 refine ⟨hj,?_⟩
 have:=List.not_of_lt_findIdx h
 simpa using this
theorem posB_eq {ss:List ByteArray} {s:ByteArray} {i:Nat} (hi:i≤ss.length) (h1:∀j,(hj:j<i)→ltB (ss[j]'(by omega)) s=true) (h2:∀hj:i<ss.length,ltB ss[i] s=false):posB ss s=i:=by
 rcases Nat.lt_trichotomy (posB ss s) i with c|c|c
 ·have hl:posB ss s<ss.length:=by omega
  have h3:(!ltB (ss[posB ss s]) s)=true:=List.findIdx_getElem (w:=hl)
  rw [h1 _ c] at h3
  cases h3
 ·exact c
 ·obtain ⟨hj,h3⟩:=posB_lt c
  rw [h2 hj] at h3
  cases h3
def hiV:Value→Nat→Value
 | .slice A _ c,i=>.slice A i c
 | v,_=>v
def loV:Value→Nat→Value
 | .slice A n c,i=>.slice (A.map (·.add (i*1))) (n - i) (c - i)
 | v,_=>v
theorem ble_true {a b:Nat} (h:a≤b):Nat.ble a b=true:=by simpa using h
theorem takeN_take:∀(l:List Value) (i:Nat),i≤l.length→takeN l i=some (l.take i)
 | l,0,_=>by simp [takeN]
 | [],i+1,h=>absurd h (by simp)
 | v::l,i+1,h=>by simp only [takeN,takeN_take l i (by simpa using h),List.take_succ_cons]
theorem slice_hi {h:Hp} {n0 f0:Nat} {cs:List Value} {v:Value} (k:OwnE 9 h n0 f0 cs v) {i:Nat} (hi:i≤cs.length):slice' Try.prog h 25 v none (some (.int .i64 (i:Int))) none=some (hiV v i)∧SrcE h (hiV v i) (cs.take i):=by
 rcases k with ⟨rfl,rfl⟩|⟨b,f,hl,rfl,hr,hb0,hf⟩
 ·have:i=0:=by simpa using hi
  subst this
  refine ⟨?_,rfl,rfl⟩
  simp only [slice',Try.underlying25,sz9]
  rfl
 ·obtain ⟨bs',g,hrow⟩:=hr.row
  have hlo:=hr.lo
  refine ⟨?_,?_,?_⟩
  ·have e1:Nat.ble cs.length cs.length=true:=by simp
   have e2:Nat.ble i cs.length=true:=ble_true hi
   have e3:Nat.ble 0 i=true:=by simp
   cases g
   ·simp only [slice',Try.underlying25,sz9,blt_false hlo,hrow,e1,bound',hiV]
    simp only [show ((i:Int))=Int.ofNat i from rfl,e2]
    simp [add_mk]
   ·simp only [slice',Try.underlying25,sz9,blt_false hlo,hrow,e1,bound',hiV]
    simp only [show ((i:Int))=Int.ofNat i from rfl,e2]
    simp [add_mk]
  ·simp only [hiV,lenOf',List.length_take]
   congr 1
   omega
  ·simp only [hiV,first',rowE_loads hr,List.drop_zero,Nat.mul_one,List.length_take,Nat.min_eq_left hi]
   exact takeN_take _ _ hi
theorem slice_lo {h:Hp} {n0 f0:Nat} {cs:List Value} {v:Value} (k:OwnE 9 h n0 f0 cs v) {i:Nat} (hi:i≤cs.length):slice' Try.prog h 25 v (some (.int .i64 (i:Int))) none none=some (loV v i)∧SrcE h (loV v i) (cs.drop i):=by
 rcases k with ⟨rfl,rfl⟩|⟨b,f,hl,rfl,hr,hb0,hf⟩
 ·have:i=0:=by simpa using hi
  subst this
  refine ⟨?_,rfl,rfl⟩
  simp only [slice',Try.underlying25,sz9]
  rfl
 ·obtain ⟨bs',g,hrow⟩:=hr.row
  have hlo:=hr.lo
  refine ⟨?_,?_,?_⟩
  ·have e1:Nat.ble cs.length cs.length=true:=by simp
   have e2:Nat.ble i cs.length=true:=ble_true hi
   cases g
   ·simp only [slice',Try.underlying25,sz9,blt_false hlo,hrow,e1,bound',loV]
    simp only [show ((i:Int))=Int.ofNat i from rfl,e2]
   ·simp only [slice',Try.underlying25,sz9,blt_false hlo,hrow,e1,bound',loV]
    simp only [show ((i:Int))=Int.ofNat i from rfl,e2]
  ·simp only [loV,lenOf',List.length_drop]
  ·simp only [loV,Option.map_some,add_mk,first',rowE_loads hr,Nat.mul_one,List.length_drop,Nat.zero_add]
   rw [←List.length_drop]
   exact takeN_all _
theorem hiV_same {v:Value} {A:Option Addr} {n c:Nat} (e:v=.slice A n c) (hA:spotless A=true) (i k:Nat):sameV k (hiV v i) (hiV v i)=true:=by
 subst e
 exact sameN_sliceA hA _ _ _
theorem loV_same {v:Value} {A:Option Addr} {n c:Nat} (e:v=.slice A n c) (hA:A=none∨∃b o,A=some ⟨b,o,none⟩) (i k:Nat):sameV k (loV v i) (loV v i)=true:=by
 subst e
 refine sameN_sliceA ?_ _ _ _
 rcases hA with rfl|⟨b,o,rfl⟩
 ·rfl
 ·simp only [Option.map_some,add_mk]
  rfl
end Go.Ev.G24
end
section
namespace Go.Ev.G24
open Go.RowKit Go.Proofs
theorem snd_of_sns {P:Program} {f:FuncId} {args:List Value} {v:Value} {h h1:Hp} (s:Sns P f args h (fun v' h'=>v'=v∧h'=h1)):Snd P f args h v h1 :=
 ⟨s.1,fun ρ N w args' H A=>(s.2 ρ N w args' H A).mono fun _ _ ⟨v',h',ρ1,u,⟨e1,e2⟩,r⟩=>by
  subst e1;subst e2
  exact ⟨ρ1,u,r⟩⟩
theorem dn_make {P:Program} (W:WfP P) {id:Nat} {ops:List Oper} {n:Nat} (ps:List (List Nat)) {l:List (Nat×CObj)} {a:Ev.A} {h H0:Hp} {Q:Ex→Ev.A→Hp→Prop} {t:Tag ops} {u:Tag Q} (hn:a.n=n) (ho:textOkM n ps ops=true) (hH:laid h ops.length l=H0)
 (k:DMt P h.next ops ps 0 ops [] [] [] a H0 (Q .normal) ⟨⟩ ⟨⟩ ⟨⟩ ⟨⟩):Dn P id ops a h Q t u:=Dn_make W ps l hn ho (by rw [hH];exact k)
theorem laid_one {h:Hp} {k i:Nat} {c:List Value} {e:TypeId} (hi:Nat.blt i k=true):Ext h (laid h k [(i,.cells ⟨c,e,0,0,false⟩)])∧(laid h k [(i,.cells ⟨c,e,0,0,false⟩)]).objs.get (h.next+i)=some (.cells ⟨c,e,0,0,false⟩)∧(laid h k [(i,.cells ⟨c,e,0,0,false⟩)]).next=h.next+k:=by
 have e1:laid h k [(i,.cells ⟨c,e,0,0,false⟩)]=Hp.put { h with next:=h.next+k } (h.next+i) (.cells ⟨c,e,0,0,false⟩):=by
  simp only [laid,layAll,hi,famFree]
 rw [e1]
 refine ⟨⟨rfl,rfl,Nat.le_add_right _ _,fun b hb => ?_,Nat.le_refl _,fun _ _=>rfl⟩,by rw [get_putH,if_pos rfl],rfl⟩
 rw [get_putH,if_neg (by omega)]
theorem laidAs_str (s:ByteArray):laidAs (.cells ⟨[.string s],9,0,0,false⟩) (.cells ⟨[.string s],9,0,0,false⟩)=true:=by
 simp [laidAs,sameVs,sameV,bytesEq_beq]
set_option maxHeartbeats 4000000 in
set_option maxRecDepth 10000 in
theorem insert_loop {ss:List ByteArray} {s:ByteArray} {A:Option Addr} {c:Nat} {h:Hp} (hA:ss≠[]→∃b o,A=some ⟨b,o,none⟩∧∀(i:Nat) (s:ByteArray),ss[i]? = some s→h.load ⟨b,o+i,none⟩=some (.string s)) (hl:ss.length≤100000)
  {a:Ev.A} {Q:Ex→Ev.A→Hp→Prop} (hn:a.n=47) (g0:a.get 0=.slice A ss.length c) (g1:a.get 1=.string s) (g5:a.get 5=.int .i64 0)
  (hq:∀a1:Ev.A,a1.n=47→a1.get 0=.slice A ss.length c→a1.get 1=.string s→a1.get 5=.int .i64 (posB ss s:Nat)→Q (.exit 0) a1 h):Th Try.prog (bodyAt Try.f88 [1,1,0,0]) a h Q ⟨⟩ ⟨⟩:=by
 simp only [bodyAt,nav,Try.f88]
 refine loop_go (n:=47) (by kernel_rfl) (fun m' a' h'=>∃i:Nat,i≤ss.length∧m'=ss.length - i∧h'=h∧(∀j,(hj:j<i)→∀hj2:j<ss.length,ltB ss[j] s=true) ∧
  a'.get 0=.slice A ss.length c∧a'.get 1=.string s∧a'.get 5=.int .i64 (i:Int)) ?_ ss.length _ _ hn ⟨0,Nat.zero_le _,rfl,rfl,fun j hj=>absurd hj (Nat.not_lt_zero _),g0,g1,g5⟩
 rintro m' a' h' hn' ⟨i,hi,rfl,rfl,hst,e0,e1,e5⟩
 have sn:∀(b:Ev.A) (t:Nat) (v:Value),(b.set t v).n=b.n:=fun b t v=>rfl
 by_cases hlt:i<ss.length
 rotate_left
 ·have hi0:decide ((i:Int)<(ss.length:Int))=false:=decide_eq_false (by omega)
  have hp:posB ss s=i:=posB_eq hi (fun j hj=>hst j hj (by omega)) (fun c=>absurd c hlt)
  simp -dsimp only [go_sem,e0,e5,hi0]
  exact hq _ (by simp -dsimp only [go_sem,hn']) (by simp -dsimp only [go_sem,e0]) (by simp -dsimp only [go_sem,e1]) (by simp -dsimp only [go_sem,e5,hp])
 have hi1:decide ((i:Int)<(ss.length:Int))=true:=decide_eq_true (Int.ofNat_lt.2 hlt)
 obtain ⟨b,o,rfl,hA2⟩:=hA (ne_nil hlt)
 have la:=hA2 i _ (List.getElem?_eq_getElem hlt)
 cases hs:bytesLt ss[i].data.toList s.data.toList with
 | true =>
   simp -dsimp only [go_sem,e0,e1,e5,hi1,ia25 hlt,la,str_lss,hs,wrap64_succ hlt (Nat.le_trans hl (by decide))]
   refine ⟨ss.length - (i+1),by omega,i+1,hlt,rfl,fun j hj hj2 => ?_,rfl⟩
   by_cases e:j=i
   ·subst e;exact hs
   ·exact hst j (by omega) hj2
 | false =>
   have hp:posB ss s=i:=posB_eq hi (fun j hj=>hst j hj (by omega)) (fun _=>hs)
   simp -dsimp only [go_sem,e0,e1,e5,hi1,ia25 hlt,la,str_lss,hs]
   exact hq _ (by simp -dsimp only [go_sem,hn']) (by simp -dsimp only [go_sem,e0]) (by simp -dsimp only [go_sem,e1]) (by simp -dsimp only [go_sem,e5,hp])
theorem OwnE.same {e:TypeId} {h:Hp} {n0 f0:Nat} {cs:List Value} {v:Value} (k:OwnE e h n0 f0 cs v) (j:Nat):sameV j v v=true:=by
 rcases k with ⟨_,rfl⟩|⟨b,f,hl,rfl,hr,hb,hf⟩
 ·exact sameN_sliceA rfl _ _ _
 ·exact sameN_sliceA rfl _ _ _
theorem take_strs (ss:List ByteArray) (i:Nat):(strs ss).take i=strs (ss.take i):=by unfold strs;exact (List.map_take ..).symm
theorem drop_strs (ss:List ByteArray) (i:Nat):(strs ss).drop i=strs (ss.drop i):=by unfold strs;exact (List.map_drop ..).symm
set_option maxHeartbeats 8000000 in
set_option maxRecDepth 10000 in
theorem insert_c {ss:List ByteArray} {s:ByteArray} {h:Hp} {n0 f0:Nat} {v:Value} (k:OwnE 9 h n0 f0 (strs ss) v) (hb:h.base≤h.next) (hl:ss.length≤100000) :
  ∃u h1,Snd Try.prog 88 [v,.string s] h u h1∧Ext h h1∧OwnE 9 h1 0 0 (strs (insB ss s)) u:=by
 have hpl:=posB_le ss s
 have k':=k
 obtain ⟨A,c,rfl,hsA,hA⟩:=k.strsAt
 have hr:Try.f88.results.toList=[.tmp 4]:=rfl
 by_cases hf:∃hx:posB ss s<ss.length,(ss[posB ss s]'hx).data.toList=s.data.toList
 ·obtain ⟨hx,hxs⟩:=hf
  refine ⟨.slice A ss.length c,h,?_,Ext.refl _,?_⟩
  ·refine snd_of_sns (sns_go wf Try.func88 rfl rfl (n:=47) rfl (by kernel_rfl) rfl ?_)
   intro a hn hg
   have g0:=hg 0
   have g1:=hg 1
   clear hg
   simp only [List.getElem?_cons_zero,List.getElem?_cons_succ] at g0 g1
   simp -dsimp only [go_sem]
   refine nt_of_th wf (insert_loop (s:=s) hA hl (by simp -dsimp only [go_sem,hn]) (A:=A) (c:=c) (by simp -dsimp only [go_sem,g0]) (by simp -dsimp only [go_sem,g1]) (by simp -dsimp only [go_sem]) (fun ax hn1 e0 e1 e5 => ?_))
   have hi1:decide (((posB ss s:Nat):Int)<(ss.length:Int))=true:=decide_eq_true (Int.ofNat_lt.2 hx)
   obtain ⟨b,o,rfl,hA2⟩:=hA (ne_nil hx)
   have la:=hA2 _ _ (List.getElem?_eq_getElem hx)
   have k2:decide (ss[posB ss s].data.toList=s.data.toList)=true:=decide_eq_true hxs
   simp -dsimp only [go_sem,e0,e1,e5,hi1,ia25 hx,la,k2,hr]
  ·have:insB ss s=ss:=by
    unfold insB
    rw [List.getElem?_eq_getElem hx]
    exact if_pos hxs
   rw [this]
   exact k.lower (Nat.zero_le _) (Nat.zero_le _)
 ·have hins:insB ss s=ss.take (posB ss s)++[s]++ss.drop (posB ss s):=by
   unfold insB
   cases hx:ss[posB ss s]? with
   | none=>rfl
   | some x =>
     have hxx:=List.getElem?_eq_some_iff.1 hx
     exact if_neg (fun c=>hf ⟨hxx.1,by rw [hxx.2];exact c⟩)
  obtain ⟨q1,q2,q3⟩:=laid_one (h:=h) (k:=13) (i:=6) (c:=[.string s]) (e:=9) rfl
  obtain ⟨H0,hH0⟩:∃H0,laid h 13 [(6,.cells ⟨[.string s],9,0,0,false⟩)]=H0:=⟨_,rfl⟩
  rw [hH0] at q1 q2 q3
  have hb0:H0.base≤H0.next:=by rw [q1.base];exact Nat.le_trans hb q1.next
  have kls:(strs ss).length=ss.length:=strs_len ss
  have ht:(ss.take (posB ss s)).length=posB ss s:=by rw [List.length_take];omega
  have hd:(ss.drop (posB ss s)).length=ss.length - posB ss s:=List.length_drop
  have hi':posB ss s≤(strs ss).length:=by rw [kls];exact hpl
  obtain ⟨a1,a2⟩:=slice_hi (k.ext q1) hi'
  rw [take_strs] at a2
  obtain ⟨v1,H1,p1,o1,x1,_⟩:=apps25 (n0:=H0.next) (f0:=H0.nfam) (cs:=[]) (strs_cell _) (.inl ⟨rfl,rfl⟩) a2 hb0 (Nat.le_refl _) (Nat.le_refl _) (by simp only [strs_len,List.length_nil];omega)
  have z1:Ext H0 H1:=(x1 (fun _=>False) H0 (Ext.refl _).toS (Nat.le_refl _) (Nat.le_refl _)).ext (fun _ _ c=>c)
  have hb1:H1.base≤H1.next:=by rw [z1.base];exact Nat.le_trans hb0 z1.next
  have hw0:H0.own (h.next+6) 9 [.string s]:=⟨by rw [q1.base];omega,by rw [q3];omega,q2⟩
  have hw1:=own_ext z1 hw0
  obtain ⟨v2,H2,p2,o2,x2,_⟩:=apps25 (ds:=[.string s]) rfl o1 (src_own hw1 (n:=1) (c:=1) rfl) hb1 z1.next z1.nfam (by simp only [strs_len,List.length_append,List.length_nil,List.length_cons];omega)
  have z2:Ext H0 H2:=(x2 (fun _=>False) H0 z1.toS (Nat.le_refl _) (Nat.le_refl _)).ext (fun _ _ c=>c)
  have hb2:H2.base≤H2.next:=by rw [z2.base];exact Nat.le_trans hb0 z2.next
  obtain ⟨b1,b2⟩:=slice_lo (k.ext (q1.trans z2)) hi'
  have b10:=(slice_lo (k.ext q1) hi').1
  have b11:=(slice_lo (k.ext (q1.trans z1)) hi').1
  rw [drop_strs] at b2
  obtain ⟨v3,H3,p3,o3,x3,_⟩:=apps25 (strs_cell _) o2 b2 hb2 z2.next z2.nfam (by simp only [strs_len,List.length_append,List.length_nil,List.length_cons];omega)
  have z3:Ext H0 H3:=(x3 (fun _=>False) H0 z2.toS (Nat.le_refl _) (Nat.le_refl _)).ext (fun _ _ c=>c)
  have s0:=sameN_sliceA hsA 9 ss.length c
  have s1:=hiV_same (v:=.slice A ss.length c) rfl hsA (posB ss s) 9
  have s2:=loV_same (v:=.slice A ss.length c) rfl (by
   rcases List.eq_nil_or_concat ss with e|⟨_,_,e⟩
   ·subst e
    rcases k with ⟨_,e⟩|⟨_,_,c,_⟩
    ·injection e with e
     exact .inl e
    ·exact absurd rfl c
   ·obtain ⟨b,o,q,_⟩:=hA (by rw [e];simp)
    exact .inr ⟨b,o,q⟩) (posB ss s) 9
  have s3:sameV 9 v1 v1=true:=o1.same 9
  have s4:sameV 9 v2 v2=true:=o2.same 9
  have s5:sameV 9 v3 v3=true:=o3.same 9
  refine ⟨v3,H3,?_,q1.trans z3,?_⟩
  ·refine snd_of_sns (sns_go wf Try.func88 rfl rfl (n:=47) rfl (by kernel_rfl) rfl ?_)
   intro a hn hg
   have g0:=hg 0
   have g1:=hg 1
   clear hg
   simp only [List.getElem?_cons_zero,List.getElem?_cons_succ] at g0 g1
   simp -dsimp only [go_sem]
   refine nt_of_th wf (insert_loop (s:=s) hA hl (by simp -dsimp only [go_sem,hn]) (A:=A) (c:=c) (by simp -dsimp only [go_sem,g0]) (by simp -dsimp only [go_sem,g1]) (by simp -dsimp only [go_sem]) (fun ax hn1 e0 e1 e5 => ?_))
   by_cases hx:posB ss s<ss.length
   ·have hi1:decide (((posB ss s:Nat):Int)<(ss.length:Int))=true:=decide_eq_true (Int.ofNat_lt.2 hx)
    obtain ⟨b,o,rfl,hA2⟩:=hA (ne_nil hx)
    have la:=hA2 _ _ (List.getElem?_eq_getElem hx)
    have k2:decide (ss[posB ss s].data.toList=s.data.toList)=false:=decide_eq_false (fun c=>hf ⟨hx,c⟩)
    simp -dsimp only [go_sem,e0,e1,e5,hi1,ia25 hx,la,k2,hr]
    refine dn_make (H0:=H0) wf [[],[],[],[1,2],[0,1,2,3],[],[5],[0,1,2,3,4,5,6],[],[],[8,9],[0,1,2,3,4,5,6,7,8,9,10],[0,1,2,3,4,5,6,7,8,9,10,11]] (n:=47) (by simp -dsimp only [go_sem,hn1]) (by kernel_rfl) hH0 ?_
    simp -dsimp only [go_sem,e0,e1,e5,a1,b1,b10,b11,bs25 1 (by decide),repeatN,laidAs_str,q2,hw1.2.2,builtin',p1,p2,p3,s0,s1,s2,s3,s4,s5,Option.toList_none,Option.toList_some,List.nil_append,List.append_nil,List.cons_append,hr]
   ·have hi1:decide (((posB ss s:Nat):Int)<(ss.length:Int))=false:=decide_eq_false (by omega)
    simp -dsimp only [go_sem,e0,e1,e5,hi1,hr]
    refine dn_make (H0:=H0) wf [[],[],[],[1,2],[0,1,2,3],[],[5],[0,1,2,3,4,5,6],[],[],[8,9],[0,1,2,3,4,5,6,7,8,9,10],[0,1,2,3,4,5,6,7,8,9,10,11]] (n:=47) (by simp -dsimp only [go_sem,hn1]) (by kernel_rfl) hH0 ?_
    simp -dsimp only [go_sem,e0,e1,e5,a1,b1,b10,b11,bs25 1 (by decide),repeatN,laidAs_str,q2,hw1.2.2,builtin',p1,p2,p3,s0,s1,s2,s3,s4,s5,Option.toList_none,Option.toList_some,List.nil_append,List.append_nil,List.cons_append,hr]
  ·rw [hins,strs_app,strs_app]
   rw [List.nil_append] at o3
   exact o3.lower (Nat.zero_le _) (Nat.zero_le _)
end Go.Ev.G24
end
section
namespace Go.Ev.G24
open Go.RowKit Go.Proofs
mutual
def psz:Part→Nat
 | ⟨_,_,l⟩=>1+pszL l
def pszL:List Part→Nat
 | []=>0
 | x::l=>psz x+pszL l
end
theorem psz_eq (d t:ByteArray) (l:List Part):psz ⟨d,t,l⟩=1+pszL l:=by rw [psz]
theorem pszL_cons (x:Part) (l:List Part):pszL (x::l)=psz x+pszL l:=by rw [pszL]
def unW:List Rule→List Bool→Nat
 | [],_=>0
 | x::G,[]=>psz x.body+unW G []
 | x::G,b::bs=>(if b=true then 0 else psz x.body)+unW G bs
theorem unW_set:∀{G:List Rule} {bs:List Bool} {i:Nat} {x:Rule},G[i]? = some x→bs[i]? = some false→unW G (bs.set i true)+psz x.body=unW G bs
 | y::G,b::bs,0,x,h1,h2=>by
   simp at h1 h2
   subst h1;subst h2
   simp [unW]
   omega
 | y::G,b::bs,i+1,x,h1,h2=>by
   have:=unW_set (G:=G) (bs:=bs) (i:=i) (x:=x) (by simpa using h1) (by simpa using h2)
   simp only [List.set_cons_succ,unW]
   omega
theorem unW_le {m:Nat}:∀{G:List Rule} {bs:List Bool},(∀x∈G,psz x.body≤m)→unW G bs≤G.length*m
 | [],bs,_=>by simp [unW]
 | x::G,[],h=>by
   have:=unW_le (G:=G) (bs:=[]) (fun y hy=>h y (.tail _ hy))
   have:=h x (.head _)
   simp only [unW,List.length_cons,Nat.add_mul]
   omega
 | x::G,b::bs,h=>by
   have:=unW_le (G:=G) (bs:=bs) (fun y hy=>h y (.tail _ hy))
   have:=h x (.head _)
   simp only [unW,List.length_cons,Nat.add_mul]
   split<;>omega
def wSt (G:List Rule) (s:StF):Nat:=s.2.length+unW G s.1
def tsz:TaskF→Nat
 | .part p=>psz p
 | .kids l _=>pszL l
variable {G:List Rule} {em:List Bool}
theorem stepF_W {rc:TaskF→StF→Option StF} (ih:∀t s o,s.1.length=G.length→rc t s=some o→wSt G o≤wSt G s+tsz t∧o.1.length=G.length) :
  ∀t s o,s.1.length=G.length→stepF G em rc t s=some o→wSt G o≤wSt G s+tsz t∧o.1.length=G.length:=by
 intro t s o hl k
 have hGl:(nms G).length=G.length:=by simp [nms]
 match t with
 | .part ⟨d,t,l⟩ =>
   simp only [tsz,psz_eq]
   unfold stepF at k
   simp only [] at k
   split at k
   ·injection k with k
    subst k
    exact ⟨by simp only [wSt,List.length_append,List.length_cons,List.length_nil];omega,hl⟩
   split at k
   ·injection k with k
    subst k
    exact ⟨by simp only [wSt,List.length_append,List.length_cons,List.length_nil];omega,hl⟩
   split at k
   ·split at k
    ·injection k with k
     subst k
     exact ⟨by omega,hl⟩
    ·rename_i hns
     obtain ⟨q1,q2⟩:=ih _ _ _ (by simpa using hl) k
     refine ⟨?_,q2⟩
     simp only [tsz] at q1
     by_cases hi:idxOf (nms G) t<G.length
     ·have e1:G[idxOf (nms G) t]? = some G[idxOf (nms G) t]:=List.getElem?_eq_getElem hi
      have hi2:idxOf (nms G) t<s.1.length:=by omega
      have e2:s.1[idxOf (nms G) t]? = some false:=by
       rw [List.getD_eq_getElem?_getD,List.getElem?_eq_getElem hi2] at hns
       rw [List.getElem?_eq_getElem hi2]
       cases hc:s.1[idxOf (nms G) t] with
       | false=>rfl
       | true=>rw [hc] at hns;exact absurd rfl hns
      have e3:=unW_set e1 e2
      have e4:bodyOf G t=G[idxOf (nms G) t].body:=by
       unfold bodyOf
       rw [e1]
      rw [e4] at q1
      simp only [wSt] at q1 ⊢
      omega
     ·have e1:G[idxOf (nms G) t]? = none:=List.getElem?_eq_none (by omega)
      have e4:psz (bodyOf G t)=1:=by
       unfold bodyOf
       rw [e1]
       rfl
      rw [List.set_eq_of_length_le (by omega),e4] at q1
      simp only [wSt] at q1 ⊢
      omega
   split at k
   ·injection k with k
    subst k
    exact ⟨by omega,hl⟩
   ·obtain ⟨q1,q2⟩:=ih _ _ _ hl k
    simp only [tsz] at q1
    exact ⟨by omega,q2⟩
 | .kids [] sq =>
   injection k with k
   subst k
   exact ⟨by omega,hl⟩
 | .kids (x::l) sq =>
   change (rc (.part x) s).bind _=some o at k
   rw [Option.bind_eq_some_iff] at k
   obtain ⟨s1,h1,h2⟩:=k
   obtain ⟨q1,q2⟩:=ih _ _ _ hl h1
   simp only [tsz,pszL_cons] at q1 ⊢
   split at h2
   ·injection h2 with h2
    subst h2
    exact ⟨by omega,q2⟩
   ·obtain ⟨q3,q4⟩:=ih _ _ _ q2 h2
    simp only [tsz] at q3
    exact ⟨by omega,q4⟩
theorem runF_W:∀(k:Nat) t s o,s.1.length=G.length→runF G em k t s=some o→wSt G o≤wSt G s+tsz t∧o.1.length=G.length
 | 0,_,_,_,_,h=>by cases h
 | k+1,t,s,o,hl,h=>stepF_W (fun t s o hl h=>runF_W k t s o hl h) t s o hl h
theorem RunsF.W {t:TaskF} {s o:StF} (h:RunsF G em t s o) (hl:s.1.length=G.length):wSt G o≤wSt G s+tsz t:=by
 obtain ⟨k,h⟩:=h
 exact (runF_W k _ _ _ hl h).1
mutual
theorem psz_le (most:Nat):∀(p:Part) (deep:Nat),partsB most deep p≤most→psz p≤partsB most deep p
 | ⟨d,t,l⟩,deep,h=>by
   unfold partsB at h ⊢
   rw [psz]
   split at h
   ·omega
   ·rename_i c1
    rw [if_neg c1]
    split at h
    ·omega
    ·rename_i c2
     rw [if_neg c2]
     split at h
     ·omega
     ·rename_i c3
      rw [if_neg c3]
      exact pszL_le most l (deep - 1) 1 h
theorem pszL_le (most:Nat):∀(l:List Part) (deep n:Nat),partsL most deep l n≤most→n+pszL l≤partsL most deep l n
 | [],deep,n,h=>by unfold partsL;rw [pszL];exact Nat.le_refl _
 | x::l,deep,n,h=>by
   unfold partsL at h ⊢
   split at h
   ·rename_i c
    rw [if_pos c,pszL]
    have h2:=pszL_le most l deep _ h
    have h1:=psz_le most x deep (by omega)
    omega
   ·omega
end
theorem small_psz {most:Nat} (h:smallB most G=true):∀x∈G,psz x.body≤most:=by
 unfold smallB at h
 split at h
 ·cases h
 ·rename_i n hn
  rw [Bool.and_eq_true] at h
  intro x hx
  have:=(smallL_in most G 0 n hn (of_decide_eq_true h.1) x hx).2
  exact Nat.le_trans (psz_le most x.body 40 this) this
theorem unW_small (h:smallB 200 G=true) (hl:G.length≤30) (bs:List Bool):unW G bs≤6000:=by
 have:=unW_le (bs:=bs) (small_psz h)
 have h2:G.length*200≤30*200:=Nat.mul_le_mul_right _ hl
 omega
def insAll (log:List ByteArray):List ByteArray:=log.foldl insB []
theorem insAll_snoc (log:List ByteArray) (s:ByteArray):insAll (log++[s])=insB (insAll log) s:=by
 unfold insAll
 rw [List.foldl_append]
 rfl
theorem insB_len (ss:List ByteArray) (s:ByteArray):(insB ss s).length≤ss.length+1:=by
 have:=posB_le ss s
 unfold insB
 split
 ·split
  ·omega
  ·simp only [List.length_append,List.length_take,List.length_drop,List.length_cons,List.length_nil];omega
 ·simp only [List.length_append,List.length_take,List.length_drop,List.length_cons,List.length_nil];omega
theorem insFold_len:∀(log ss:List ByteArray),(log.foldl insB ss).length≤ss.length+log.length
 | [],ss=>by simp
 | s::log,ss=>by
   have:=insFold_len log (insB ss s)
   have:=insB_len ss s
   rw [List.foldl_cons,List.length_cons]
   omega
theorem insAll_len (log:List ByteArray):(insAll log).length≤log.length:=by
 have:=insFold_len log []
 simpa [insAll] using this
end Go.Ev.G24
end
section
namespace Go.Ev.G24
open Go.RowKit Go.Proofs
variable {r:Ro} {G:List Rule} {em:List Bool} {eb tb ob:Nat} {Gv:Option Addr} {gc:Nat}
structure RSt (h:Hp) (G:List Rule) (tb ob:Nat) (s:StF):Prop where
 own:h.own tb 4 (s.1.map .bool)
 out:∃v,h.own ob 25 [v]∧OwnE 9 h 0 0 (strs (insAll s.2)) v
 len:s.1.length=G.length
theorem RSt.ext {h h1:Hp} (x:Ext h h1) {s:StF} (k:RSt h G tb ob s):RSt h1 G tb ob s :=
 ⟨own_ext x k.own,k.out.elim fun v q=>⟨v,own_ext x q.1,q.2.ext x⟩,k.len⟩
def RFirstC (r:Ro) (G:List Rule) (em:List Bool) (eb tb ob:Nat) (Gv:Option Addr) (gc bound:Nat) (p:Part):Prop:=∀(h:Hp) (cs:List Value) (s:StF),h.rom=r→h.base≤h.next→h.own eb 4 (em.map .bool)→RoPart r p cs→rightP (nms G) p=true →
 RSt h G tb ob s→cf s.1≤bound→wSt G s+psz p≤100000 →
 ∃v h1,Snd Try.prog 64 [.agg #[.slice Gv G.length gc],.slice (some ⟨eb,0,none⟩) G.length G.length,.agg cs.toArray,.pointer (some ⟨ob,0,none⟩),.slice (some ⟨tb,0,none⟩) G.length G.length] h v h1∧ExtS (TwoF tb ob) h h1∧∃s',RunsF G em (.part p) s s'∧RSt h1 G tb ob s'∧cf s'.1≤cf s.1
@[go_sem] theorem st25 (h : Hp) (a : Addr) (v : Value) : storeVar' Try.prog h 25 a v = match Nat.beq v.cells.toList.length 1 with | true => h.stores a v.cells.toList | false => none := store_var sz25 h a v
theorem OwnE.cell {e:TypeId} {h:Hp} {n0 f0:Nat} {cs:List Value} {v:Value} (k:OwnE e h n0 f0 cs v):[v].all oneCell=true:=by
 rcases k with ⟨_,rfl⟩|⟨b,f,hl,rfl,hr,hb,hf⟩<;>rfl
theorem RSt.put {h h1:Hp} {s:StF} (k:RSt h G tb ob s) (x:Ext h h1) (hne:tb≠ob) {t:ByteArray} {u:Value} (hO:OwnE 9 h1 0 0 (strs (insB (insAll s.2) t)) u):RSt (h1.put ob (.cells ⟨[u],25,0,0,false⟩)) G tb ob (s.1,s.2++[t]):=by
 obtain ⟨v,q1,q2⟩:=k.out
 refine ⟨own_put (own_ext x k.own) hne _,⟨u,own_put_same (own_ext x q1) _,?_⟩,k.len⟩
 show OwnE 9 _ 0 0 (strs (insAll (s.2++[t]))) u
 rw [insAll_snoc]
 rcases hO with q|⟨b,f,hl,e,hr,hb,hf⟩
 ·exact .inl q
 ·refine .inr ⟨b,f,hl,e,rowE_keep (S:=Only ob) ((Ext.refl h1).toS.put (S:=Only ob) (b:=ob) (.inr rfl) _) hr (fun c => ?_),hb,hf⟩
  have:=rowE_ne hr (own_ext x q1) (by decide)
  exact this c.symm
set_option maxHeartbeats 4000000 in
set_option maxRecDepth 10000 in
theorem rfirst_loop {bound:Nat} {l:List Part} {pb gp:Nat} {d t:ByteArray} {Av:Option Addr} {c b o:Nat} {css:Nat→List Value} (ih:∀(i:Nat) (p:Part),l[i]? = some p→RFirstC r G em eb tb ob Gv gc bound p) (hnk:∀(i:Nat) (p:Part),l[i]? = some p→rightP (nms G) p=true) (hGs:spotless Gv=true)
  (hlb:l.length≤9223372036854775807) (hA:l≠[]→Av=some ⟨b,o,none⟩) (hat:∀(i:Nat) (p:Part),l[i]? = some p→roAt r b (o+i*3) (css i)) (hk:∀(i:Nat) (p:Part),l[i]? = some p→RoPart r p (css i))
  {a:Ev.A} {h2:Hp} {Q:Ex→Ev.A→Hp→Prop} (hn:a.n=107) (hrom2:h2.rom=r) (hb2:h2.base≤h2.next) (hE2:h2.own eb 4 (em.map .bool)) {s:StF} (hS2:RSt h2 G tb ob s) (hbd:cf s.1≤bound) (hW:wSt G s+pszL l≤100000)
  (hpe:¬TwoF tb ob eb) (hpt:¬TwoF tb ob gp) (hpt1:¬TwoF tb ob pb) (hP:h2.own pb 52 [.string d,.string t,.slice Av l.length c]) (hG1:h2.own gp 24 [.slice Gv G.length gc])
  (g1:a.get 1=.slice (some ⟨eb,0,none⟩) G.length G.length) (g3:a.get 3=.pointer (some ⟨ob,0,none⟩)) (g4:a.get 4=.slice (some ⟨tb,0,none⟩) G.length G.length) (g5:a.get 5=.pointer (some ⟨gp,0,none⟩)) (g7:a.get 7=.pointer (some ⟨pb,0,none⟩)) (g12:a.get 12=.int .i64 0)
  (hq:∀a1 h3 s',ExtS (TwoF tb ob) h2 h3→RunsF G em (.kids l false) s s'→RSt h3 G tb ob s'→cf s'.1≤cf s.1→Q (.exit 3) a1 h3):Th Try.prog (bodyAt Try.f64 [1,1,0,1,1,1,1,1,1,1,1,1,0,1,0]) a h2 Q ⟨⟩ ⟨⟩:=by
 simp only [bodyAt,nav,Try.f64]
 refine loop_go (n:=107) (by kernel_rfl) (fun m' a' h'=>∃(i:Nat) (s1:StF),i≤l.length∧m'=l.length - i∧ExtS (TwoF tb ob) h2 h'∧RSt h' G tb ob s1∧cf s1.1≤cf s.1∧wSt G s1+pszL (l.drop i)≤100000∧(∀s',RunsF G em (.kids (l.drop i) false) s1 s'→RunsF G em (.kids l false) s s') ∧
  a'.get 1=.slice (some ⟨eb,0,none⟩) G.length G.length∧a'.get 3=.pointer (some ⟨ob,0,none⟩)∧a'.get 4=.slice (some ⟨tb,0,none⟩) G.length G.length∧a'.get 5=.pointer (some ⟨gp,0,none⟩)∧a'.get 7=.pointer (some ⟨pb,0,none⟩)∧a'.get 12=.int .i64 i) ?_ l.length _ _ hn ⟨0,s,Nat.zero_le _,rfl,(Ext.refl _).toS,hS2,Nat.le_refl _,by rw [List.drop_zero];exact hW,fun s' k=>by rw [List.drop_zero] at k;exact k,g1,g3,g4,g5,g7,g12⟩
 rintro m' a' h' hn' ⟨i,s1,hi,rfl,hx,hS',hcf,hW',hst,e1,e3,e4,e5,e7,e12⟩
 have hrom':h'.rom=r:=ext_rom hx hrom2
 have hb':h'.base≤h'.next:=ext_bn hx hb2
 have hP':=own_extS hx hP hpt1
 have hG':=own_extS hx hG1 hpt
 have hE':=own_extS hx hE2 hpe
 by_cases hlt:i<l.length
 rotate_left
 ·have hi0:decide ((i:Int)<(l.length:Int))=false:=decide_eq_false (by omega)
  rw [List.drop_eq_nil_of_le (by omega)] at hst
  simp -dsimp only [go_sem,e7,e12,hi0,load_own hP']
  exact hq _ _ s1 hx (hst _ rF_nil) hS' hcf
 have hpi:l[i]? = some l[i]:=List.getElem?_eq_getElem hlt
 have hi1:decide ((i:Int)<(l.length:Int))=true:=decide_eq_true (Int.ofNat_lt.2 hlt)
 obtain ⟨Av1,c1',hcs⟩:=(hk i _ hpi).shape
 have hat':=hat i _ hpi
 have hkid:=hk i _ hpi
 rw [hcs] at hat' hkid
 have hAv:=hA (ne_nil hlt)
 subst hAv
 rw [List.drop_eq_getElem_cons hlt,pszL_cons] at hW'
 obtain ⟨_,h6,hs6,hx6,s2,hR2,hS6,hc6⟩:=ih i _ hpi h' _ s1 hrom' hb' hE' hkid (hnk i _ hpi) hS' (Nat.le_trans hcf hbd) (by omega)
 have hW6:=hR2.W hS'.len
 simp only [tsz] at hW6
 rw [List.drop_eq_getElem_cons hlt] at hst
 simp -dsimp only [go_sem,e1,e3,e4,e5,e7,e12,hi1,load_own hP']
 refine Dw_text (n:=107) [[],[],[],[2],[],[2,3,4],[2,3,4,5],[],[],[0,1,2,3,4,5,6,7,8]] (by simp -dsimp only [go_sem,hn']) (by kernel_rfl) ?_
 simp -dsimp only [go_sem,e1,e3,e4,e5,e7,e12,loads_own hG',load_own hP',loads_own hP',ia50 hlt,loads_ro (n:=3) hrom' hat' rfl,sameN_sliceA hGs,sameN_sliceA hkid.same]
 refine ⟨_,h6,hs6,?_⟩
 have hx7:ExtS (TwoF tb ob) h2 h6:=hx.trans hx6
 simp -dsimp only [go_sem,e1,e3,e4,e5,e7,e12,wrap64_succ hlt hlb]
 exact ⟨l.length - (i+1),by omega,i+1,s2,hlt,rfl,hx7,hS6,Nat.le_trans hc6 hcf,by omega,fun s' k=>hst _ (rF_cons hR2 rfl k),rfl⟩
set_option maxHeartbeats 8000000 in
set_option maxRecDepth 10000 in
theorem rfirst_c {gb go:Nat} {gcss:Nat→List Value} (R:RoRules r G Gv gc gb go gcss) (hnG:∀(i:Nat) (x:Rule),G[i]? = some x→rightP (nms G) x.body=true) (hel:em.length=G.length) (het:eb≠tb) (heo:eb≠ob) (hto:tb≠ob):∀(bound n:Nat) (p:Part),SizeOf.sizeOf p<n→RFirstC r G em eb tb ob Gv gc bound p:=by
 have hGl:(nms G).length=G.length:=by simp [nms]
 intro bound
 induction bound using Nat.strongRecOn with
 | _ bound ihB =>
 intro n
 induction n with
 | zero=>exact fun p hp=>absurd hp (Nat.not_lt_zero _)
 | succ n ihn =>
 rintro ⟨d,t,l⟩ hn h cs s hrom hb hE hp hrp hS hbd hW
 have ih:∀(i:Nat) (p:Part),l[i]? = some p→RFirstC r G em eb tb ob Gv gc bound p:=fun i p hp=>ihn p (by
  have:=List.sizeOf_lt_of_mem (List.mem_of_getElem? hp)
  simp only [Part.mk.sizeOf_spec] at hn
  omega)
 rw [rightP,Bool.and_eq_true] at hrp
 obtain ⟨hrl,hko⟩:=hrp
 have hnk:∀(i:Nat) (p:Part),l[i]? = some p→rightP (nms G) p=true:=rightL_get hrl
 rw [psz_eq] at hW
 cases hp with
 | mk _ _ _ Av c b o css hc hlb hA hat hk hs =>
 refine snd_go wf Try.func64 rfl rfl (n:=107) rfl (by kernel_rfl) rfl ?_
 intro a hn hg
 have hr:Try.f64.results.toList=[]:=rfl
 have g0:=hg 0
 have g1:=hg 1
 have g2:=hg 2
 have g3:=hg 3
 have g4:=hg 4
 clear hg
 simp only [List.getElem?_cons_zero,List.getElem?_cons_succ] at g0 g1 g2 g3 g4
 have hG:=own_new hb 24 [.slice Gv G.length gc]
 have hxg:=Ext.new h (CObj.cells ⟨[.slice Gv G.length gc],24,0,0,false⟩)
 have hbg:=Nat.le_succ_of_le (m:=h.next) hb
 have hP:=own_new (h:=h.newH (CObj.cells ⟨[.slice Gv G.length gc],24,0,0,false⟩)) hbg 52 [.string d,.string t,.slice Av l.length c]
 have hG1:=own_newH hG (CObj.cells ⟨[.string d,.string t,.slice Av l.length c],52,0,0,false⟩)
 have hx0:=hxg.trans (Ext.new _ (CObj.cells ⟨[.string d,.string t,.slice Av l.length c],52,0,0,false⟩))
 simp -dsimp only [go_sem,g0,g1,g2,g3,g4,next_newH]
 simp only [next_newH] at hP
 generalize (h.newH (CObj.cells ⟨[.slice Gv G.length gc],24,0,0,false⟩)).newH (CObj.cells ⟨[.string d,.string t,.slice Av l.length c],52,0,0,false⟩)=h2 at hP hG1 hx0 ⊢
 have hb2:h2.base≤h2.next:=by rw [hx0.base];exact Nat.le_trans hb hx0.next
 have hrom2:h2.rom=r:=hx0.rom.trans hrom
 have hS2:=hS.ext hx0
 have hE2:=own_ext hx0 hE
 have htn:tb<h.next:=hS.own.2.1
 have hon:ob<h.next:=hS.out.elim fun v q=>q.1.2.1
 have hpt:¬TwoF tb ob h.next:=fun c=>by rcases c with c|c<;>omega
 have hpt1:¬TwoF tb ob (h.next+1):=fun c=>by rcases c with c|c<;>omega
 have hpe:¬TwoF tb ob eb:=fun c=>by rcases c with c|c<;>omega
 have hlen:(insAll s.2).length≤100000:=by
  have:=insAll_len s.2
  simp only [wSt] at hW
  omega
 simp -dsimp only [go_sem,load_own hP]
 by_cases c1:d.data.toList=[105,115]
 ·have k1:decide (d.data.toList=[105,115])=true:=decide_eq_true c1
  obtain ⟨v,q1,q2⟩:=hS2.out
  obtain ⟨u,h3,hs3,hx3,hO3⟩:=insert_c (s:=t) q2 hb2 hlen
  obtain ⟨Au,rfl⟩:=hO3.len
  have hsto:=stores_own (own_ext hx3 q1) (o:=0) (vs:=[.slice Au _ _]) hO3.cell rfl (by simp)
  simp -dsimp only [go_sem,k1]
  refine Dw_text (n:=107) [[],[],[1],[1,2],[],[4],[1,2,3,4,5],[0,1,2,3,4,5,6],[0,1,2,3,4,5,6,7]] (by simp -dsimp only [go_sem,hn]) (by kernel_rfl) ?_
  simp -dsimp only [go_sem,g3,load_own hP,load_own q1,loads_own q1,q2.same 9]
  refine ⟨_,h3,hs3,?_⟩
  simp -dsimp only [go_sem,g3,hsto,hr]
  exact ⟨(hx0.toS.trans hx3.toS).put (b:=ob) (.inr (.inr rfl)) _,_,rF_is c1,hS2.put hx3 hto hO3,Nat.le_refl _⟩
 have k1:decide (d.data.toList=[105,115])=false:=decide_eq_false c1
 by_cases c2:d.data.toList=[97,110,121]
 ·have k2:decide (d.data.toList=[97,110,121])=true:=decide_eq_true c2
  obtain ⟨v,q1,q2⟩:=hS2.out
  obtain ⟨u,h3,hs3,hx3,hO3⟩:=insert_c (s:=starS) q2 hb2 hlen
  obtain ⟨Au,rfl⟩:=hO3.len
  have hs3':Snd Try.prog 88 [v,.string ⟨#[42]⟩] h2 _ h3:=hs3
  have hsto:=stores_own (own_ext hx3 q1) (o:=0) (vs:=[.slice Au _ _]) hO3.cell rfl (by simp)
  simp -dsimp only [go_sem,g3,k1,k2,load_own q1,loads_own q1]
  refine ⟨_,h3,hs3',?_⟩
  simp -dsimp only [go_sem,g3,hsto,hr]
  exact ⟨(hx0.toS.trans hx3.toS).put (b:=ob) (.inr (.inr rfl)) _,_,rF_any c2,hS2.put hx3 hto hO3,Nat.le_refl _⟩
 have k2:decide (d.data.toList=[97,110,121])=false:=decide_eq_false c2
 by_cases c3:d.data.toList=[114,117,108,101]
 ·have k3:decide (d.data.toList=[114,117,108,101])=true:=decide_eq_true c3
  have hidx:idxOf (nms G) t<(nms G).length:=kind_rule hko c3
  have hidG:idxOf (nms G) t<G.length:=by rw [←hGl];exact hidx
  have hids:idxOf (nms G) t<s.1.length:=by rw [hS.len];exact hidG
  have hfi:findB t (nms G) 0=((idxOf (nms G) t:Nat):Int):=by rw [findB_idx,if_pos hidx,Nat.zero_add]
  have hget:(s.1.map Value.bool)[idxOf (nms G) t]? = some (.bool (s.1.getD (idxOf (nms G) t) false)):=by
   simp only [List.getElem?_map,List.getD_eq_getElem?_getD,List.getElem?_eq_getElem hids,Option.map_some,Option.getD_some]
  simp -dsimp only [go_sem,g3,k1,k2,k3,load_own hP,loads_own hG1]
  obtain ⟨_,h5,hs5,rfl,hx5⟩:=find_c R t h2 hrom2 hb2
  refine ⟨_,h5,hs5,?_⟩
  have hS5:=hS2.ext hx5
  have hx05:=hx0.trans hx5
  have hG5:=own_ext hx5 hG1
  have hE5:=own_ext hx5 hE2
  simp -dsimp only [go_sem,g4,hfi,ia105 hidG,load_own hS5.own,hget]
  cases hsn:s.1.getD (idxOf (nms G) t) false with
  | true =>
    simp -dsimp only [go_sem,Bool.not_true,hr]
    exact ⟨hx05.toS,s,rF_seen c3 hsn,hS5,Nat.le_refl _⟩
  | false =>
    have hsto:=stores_own hS5.own (o:=idxOf (nms G) t) (vs:=[.bool true]) rfl (bool_store hids) (by simp)
    have hlt:=cf_le_set hsn hids
    have hx2:=(hx05.toS (S:=TwoF tb ob)).put (b:=tb) (.inr (.inl rfl)) (.cells ⟨(s.1.set (idxOf (nms G) t) true).map .bool,4,0,0,false⟩)
    have hpi:G[idxOf (nms G) t]? = some G[idxOf (nms G) t]:=List.getElem?_eq_getElem hidG
    obtain ⟨Av1,c1',hcs⟩:=(R.hk _ _ hpi).shape
    have hat':=R.hat _ _ hpi
    have hkid:=R.hk _ _ hpi
    rw [hcs] at hat' hkid
    have hat2:=roAt_tail hat'
    have hAv:=R.hA (ne_nil hidG)
    subst hAv
    have hbo:bodyOf G t=G[idxOf (nms G) t].body:=by
     unfold bodyOf
     rw [hpi]
    have hrom5:=ext_rom hx2 hrom
    have hb5:=ext_bn hx2 hb
    have hxp:=(Ext.refl h5).toS.put (S:=TwoF tb ob) (b:=tb) (.inr (.inl rfl)) (.cells ⟨(s.1.set (idxOf (nms G) t) true).map .bool,4,0,0,false⟩)
    have hG6:=own_extS hxp hG5 hpt
    have hE6:=own_extS hxp hE5 hpe
    obtain ⟨v,q1,q2⟩:=hS5.out
    have hS6:RSt (h5.put tb (.cells ⟨(s.1.set (idxOf (nms G) t) true).map .bool,4,0,0,false⟩)) G tb ob (s.1.set (idxOf (nms G) t) true,s.2):=by
     refine ⟨own_put_same hS5.own _,⟨v,own_put q1 (fun e=>hto e.symm) _,?_⟩,by simp [hS.len]⟩
     rcases q2 with q|⟨b,f,hl,e,hr,hb,hf⟩
     ·exact .inl q
     ·refine .inr ⟨b,f,hl,e,rowE_keep (S:=Only tb) ((Ext.refl h5).toS.put (S:=Only tb) (b:=tb) (.inr rfl) _) hr (fun c => ?_),hb,hf⟩
      exact rowE_ne hr hS5.own (by decide) c.symm
    have hps:psz G[idxOf (nms G) t].body+unW G (s.1.set (idxOf (nms G) t) true)=unW G s.1:=by
     rw [Nat.add_comm]
     refine unW_set hpi ?_
     rw [List.getD_eq_getElem?_getD,List.getElem?_eq_getElem hids] at hsn
     rw [List.getElem?_eq_getElem hids]
     exact congrArg some hsn
    simp -dsimp only [go_sem,Bool.not_false,g4,ia105 hidG,hsto]
    obtain ⟨_,h7,hs7,hx7,s',hR7,hS7,hc7⟩:=ihB (cf (s.1.set (idxOf (nms G) t) true)) (Nat.lt_of_lt_of_le hlt hbd) _ G[idxOf (nms G) t].body (Nat.lt_succ_self _) _ _ (s.1.set (idxOf (nms G) t) true,s.2) hrom5 hb5 hE6 hkid (hnG _ _ hpi) hS6 (Nat.le_refl _) (by
     simp only [wSt] at hW ⊢
     omega)
    refine Dw_text (n:=107) [[],[],[],[2],[],[2,3,4],[2,3,4,5],[2,3,4,5,6],[],[],[0,1,2,3,4,5,6,7,8,9]] (by simp -dsimp only [go_sem,hn]) (by kernel_rfl) ?_
    simp -dsimp only [go_sem,g1,g3,g4,loads_own hG6,load_own hG6,ia22 hidG,loads_ro (n:=3) hrom5 hat2 rfl,sameN_sliceA R.hs,sameN_sliceA hkid.same]
    refine ⟨_,h7,hs7,?_⟩
    simp -dsimp only [go_sem,hr]
    exact ⟨hx2.trans hx7,s',rF_rule c3 hsn (by rw [hbo];exact hR7),hS7,Nat.le_of_lt (Nat.lt_of_le_of_lt hc7 hlt)⟩
 have k3:decide (d.data.toList=[114,117,108,101])=false:=decide_eq_false c3
 by_cases c4:d.data.toList=[115,101,113]
 ·have k4:decide (d.data.toList=[115,101,113])=true:=decide_eq_true c4
  have knot:¬d.data.toList=[110,111,116]:=by rw [c4];decide
  simp -dsimp only [go_sem,k1,k2,k3,k4]
  refine loop_go (n:=107) (by kernel_rfl) (fun m' a' h'=>∃(i:Nat) (s1:StF),i≤l.length∧m'=l.length - i∧ExtS (TwoF tb ob) h2 h'∧RSt h' G tb ob s1∧cf s1.1≤cf s.1∧wSt G s1+pszL (l.drop i)≤100000∧(∀s',RunsF G em (.kids (l.drop i) true) s1 s'→RunsF G em (.kids l true) s s') ∧
   a'.get 1=.slice (some ⟨eb,0,none⟩) G.length G.length∧a'.get 3=.pointer (some ⟨ob,0,none⟩)∧a'.get 4=.slice (some ⟨tb,0,none⟩) G.length G.length∧a'.get 5=.pointer (some ⟨h.next,0,none⟩)∧a'.get 7=.pointer (some ⟨h.next+1,0,none⟩)∧a'.get 11=.int .i64 i) ?_ l.length _ _ (by simp -dsimp only [go_sem,hn]) ⟨0,s,Nat.zero_le _,rfl,(Ext.refl _).toS,hS2,Nat.le_refl _,by rw [List.drop_zero];omega,fun s' k=>by rw [List.drop_zero] at k;exact k,by simp -dsimp only [go_sem,g1],by simp -dsimp only [go_sem,g3],by simp -dsimp only [go_sem,g4],by simp -dsimp only [go_sem],by simp -dsimp only [go_sem],by simp -dsimp only [go_sem];rfl⟩
  rintro m' a' h' hn' ⟨i,s1,hi,rfl,hx,hS',hcf,hW',hst,e1,e3,e4,e5,e7,e11⟩
  have hrom':h'.rom=r:=ext_rom hx hrom2
  have hb':h'.base≤h'.next:=ext_bn hx hb2
  have hP':=own_extS hx hP hpt1
  have hG':=own_extS hx hG1 hpt
  have hE':=own_extS hx hE2 hpe
  by_cases hlt:i<l.length
  rotate_left
  ·have hi0:decide ((i:Int)<(l.length:Int))=false:=decide_eq_false (by omega)
   rw [List.drop_eq_nil_of_le (by omega)] at hst
   simp -dsimp only [go_sem,e7,e11,hi0,load_own hP',hr]
   exact ⟨hx0.toS.trans hx,s1,rF_kids c1 c2 c3 knot (by rw [k4];exact hst _ rF_nil),hS',hcf⟩
  have hpi:l[i]? = some l[i]:=List.getElem?_eq_getElem hlt
  have hi1:decide ((i:Int)<(l.length:Int))=true:=decide_eq_true (Int.ofNat_lt.2 hlt)
  obtain ⟨Av1,c1',hcs⟩:=(hk i _ hpi).shape
  have hat':=hat i _ hpi
  have hkid:=hk i _ hpi
  rw [hcs] at hat' hkid
  have hAv:=hA (ne_nil hlt)
  subst hAv
  rw [List.drop_eq_getElem_cons hlt,pszL_cons] at hW'
  obtain ⟨_,h6,hs6,hx6,s2,hR2,hS6,hc6⟩:=ih i _ hpi h' _ s1 hrom' hb' hE' hkid (hnk i _ hpi) hS' (Nat.le_trans hcf hbd) (by omega)
  have hW6:=hR2.W hS'.len
  simp only [tsz] at hW6
  rw [List.drop_eq_getElem_cons hlt] at hst
  simp -dsimp only [go_sem,e1,e3,e4,e5,e7,e11,hi1,load_own hP']
  refine Dw_text (n:=107) [[],[],[],[2],[],[2,3,4],[2,3,4,5],[],[],[0,1,2,3,4,5,6,7,8]] (by simp -dsimp only [go_sem,hn']) (by kernel_rfl) ?_
  simp -dsimp only [go_sem,e1,e3,e4,e5,e7,e11,loads_own hG',load_own hP',loads_own hP',ia50 hlt,loads_ro (n:=3) hrom' hat' rfl,sameN_sliceA R.hs,sameN_sliceA hkid.same]
  refine ⟨_,h6,hs6,?_⟩
  have hx7:ExtS (TwoF tb ob) h2 h6:=hx.trans hx6
  have hP6:=own_extS hx6 hP' hpt1
  have hG6:=own_extS hx6 hG' hpt
  have hE6:=own_extS hx6 hE' hpe
  have hrom6:h6.rom=r:=ext_rom hx6 hrom'
  have hb6:h6.base≤h6.next:=ext_bn hx6 hb'
  obtain ⟨_,h8,hs8,rfl,hx8⟩:=empty_c R (em:=em) (eb:=eb) hel _ l[i] (Nat.lt_succ_self _) h6 _ hrom6 hb6 hE6 hkid (right_named _ (hnk i _ hpi))
  try simp -dsimp only [go_sem,e1,e3,e4,e5,e7,e11]
  refine Dw_text (n:=107) [[],[],[],[2],[],[2,3,4],[2,3,4,5],[0,1,2,3,4,5,6],[0,1,2,3,4,5,6,7]] (by simp -dsimp only [go_sem,hn']) (by kernel_rfl) ?_
  simp -dsimp only [go_sem,e1,e3,e4,e5,e7,e11,loads_own hG6,load_own hP6,loads_own hP6,ia50 hlt,loads_ro (n:=3) hrom6 hat' rfl,sameN_sliceA R.hs,sameN_sliceA hkid.same]
  refine ⟨_,h8,hs8,?_⟩
  simp -dsimp only [go_sem]
  have hx9:ExtS (TwoF tb ob) h2 h8:=hx7.trans hx8.toS
  cases hm:mayB (emf (nms G) em) l[i] with
  | false =>
    simp -dsimp only [go_sem,Bool.not_false,hr]
    exact ⟨hx0.toS.trans hx9,s2,rF_kids c1 c2 c3 knot (by rw [k4];exact hst _ (rF_stop hR2 (by rw [hm];rfl))),hS6.ext hx8,Nat.le_trans hc6 hcf⟩
  | true =>
    simp -dsimp only [go_sem,Bool.not_true,e1,e3,e4,e5,e7,e11,wrap64_succ hlt hlb]
    exact ⟨l.length - (i+1),by omega,i+1,s2,hlt,rfl,hx9,hS6.ext hx8,Nat.le_trans hc6 hcf,by omega,fun s' k=>hst _ (rF_cons hR2 (by rw [hm];rfl) k),rfl⟩
 have k4:decide (d.data.toList=[115,101,113])=false:=decide_eq_false c4
 by_cases c5:d.data.toList=[111,114]
 ·have kk:decide (d.data.toList=[111,114])=true:=decide_eq_true c5
  simp -dsimp only [go_sem,k1,k2,k3,k4,kk]
  refine rfirst_loop (d:=d) (t:=t) (c:=c) ih hnk R.hs hlb hA hat hk (by simp -dsimp only [go_sem,hn]) hrom2 hb2 hE2 hS2 hbd (by omega) hpe hpt hpt1 hP hG1 (by simp -dsimp only [go_sem,g1]) (by simp -dsimp only [go_sem,g3]) (by simp -dsimp only [go_sem,g4]) (by simp -dsimp only [go_sem]) (by simp -dsimp only [go_sem]) (by simp -dsimp only [go_sem]) (fun a1 h3 s' hx3 hR hS3 hc3 => ?_)
  simp -dsimp only [go_sem,hr]
  exact ⟨hx0.toS.trans hx3,s',rF_kids c1 c2 c3 (by rw [c5];decide) (by rw [k4];exact hR),hS3,hc3⟩
 have k5:decide (d.data.toList=[111,114])=false:=decide_eq_false c5
 by_cases c6:d.data.toList=[109,97,110,121]
 ·have kk:decide (d.data.toList=[109,97,110,121])=true:=decide_eq_true c6
  simp -dsimp only [go_sem,k1,k2,k3,k4,k5,kk]
  refine rfirst_loop (d:=d) (t:=t) (c:=c) ih hnk R.hs hlb hA hat hk (by simp -dsimp only [go_sem,hn]) hrom2 hb2 hE2 hS2 hbd (by omega) hpe hpt hpt1 hP hG1 (by simp -dsimp only [go_sem,g1]) (by simp -dsimp only [go_sem,g3]) (by simp -dsimp only [go_sem,g4]) (by simp -dsimp only [go_sem]) (by simp -dsimp only [go_sem]) (by simp -dsimp only [go_sem]) (fun a1 h3 s' hx3 hR hS3 hc3 => ?_)
  simp -dsimp only [go_sem,hr]
  exact ⟨hx0.toS.trans hx3,s',rF_kids c1 c2 c3 (by rw [c6];decide) (by rw [k4];exact hR),hS3,hc3⟩
 have k6:decide (d.data.toList=[109,97,110,121])=false:=decide_eq_false c6
 by_cases c7:d.data.toList=[111,112,116]
 ·have kk:decide (d.data.toList=[111,112,116])=true:=decide_eq_true c7
  simp -dsimp only [go_sem,k1,k2,k3,k4,k5,k6,kk]
  refine rfirst_loop (d:=d) (t:=t) (c:=c) ih hnk R.hs hlb hA hat hk (by simp -dsimp only [go_sem,hn]) hrom2 hb2 hE2 hS2 hbd (by omega) hpe hpt hpt1 hP hG1 (by simp -dsimp only [go_sem,g1]) (by simp -dsimp only [go_sem,g3]) (by simp -dsimp only [go_sem,g4]) (by simp -dsimp only [go_sem]) (by simp -dsimp only [go_sem]) (by simp -dsimp only [go_sem]) (fun a1 h3 s' hx3 hR hS3 hc3 => ?_)
  simp -dsimp only [go_sem,hr]
  exact ⟨hx0.toS.trans hx3,s',rF_kids c1 c2 c3 (by rw [c7];decide) (by rw [k4];exact hR),hS3,hc3⟩
 have k7:decide (d.data.toList=[111,112,116])=false:=decide_eq_false c7
 simp -dsimp only [go_sem,k1,k2,k3,k4,k5,k6,k7,hr]
 by_cases c8:d.data.toList=[110,111,116]
 ·exact ⟨hx0.toS,s,rF_not c8,hS2,Nat.le_refl _⟩
 ·have hl0:l=[]:=by
   unfold kindOk at hko
   rw [if_neg c1,if_neg c3] at hko
   split at hko
   ·cases hko
   split at hko
   ·exact List.length_eq_zero_iff.1 (of_decide_eq_true hko)
   split at hko
   ·rename_i c
    exact absurd c (fun c=>c.elim c4 c5)
   split at hko
   ·rename_i c
    exact absurd c (fun c=>c.elim c6 (fun c=>c.elim c7 c8))
   ·cases hko
  subst hl0
  exact ⟨hx0.toS,s,rF_kids c1 c2 c3 c8 rF_nil,hS2,Nat.le_refl _⟩
end Go.Ev.G24
end
section
namespace Go.Ev.G24
open Go.RowKit Go.Proofs
variable {r:Ro}
@[go_sem] theorem z25 : zero' Try.prog 25 = some (.slice none 0 0) := by kernel_rfl
def RFirstV (l:List Rule) (rule:ByteArray) (h:Hp) (v:Value) (h1:Hp):Prop:=Ext h h1 ∧
 ((firstOk l rule∧∃(em:List Bool) (s':StF) (nv:Value),Found l em∧RunsF l em (.part (ruleP rule)) (List.replicate l.length false,[]) s'∧v=.tuple #[nv,.int .i64 0]∧∀h2,Ext h1 h2→StrsAt h2 nv (insAll s'.2))∨(¬firstOk l rule∧v=.tuple #[.slice none 0 0,.int .i64 240]))
theorem sameVs_bools:∀bs:List Bool,sameVs (bs.map Value.bool) (bs.map Value.bool)=true
 | []=>rfl
 | b::bs=>by
   have:=sameVs_bools bs
   simp only [List.map_cons,sameVs]
   rw [this]
   simp [sameV]
theorem laidAs_bools (bs:List Bool) (e:TypeId):laidAs (.cells ⟨bs.map Value.bool,e,0,0,false⟩) (.cells ⟨bs.map Value.bool,e,0,0,false⟩)=true:=by
 simp [laidAs,sameVs_bools]
theorem ruleP_right {nm:List ByteArray} {s:ByteArray} (h:idxOf nm s<nm.length):rightP nm (ruleP s)=true:=by
 unfold ruleP
 rw [rightP]
 unfold kindOk
 rw [if_neg (by decide),if_pos (by decide)]
 simp [rightL,h]
set_option maxHeartbeats 16000000 in
set_option maxRecDepth 10000 in
theorem refFirst_s {l:List Rule} {Av:Option Addr} {c b o:Nat} {css:Nat→List Value} (R:RoRules r l Av c b o css) (hft:fitsG l) (rule:ByteArray) (hun:unW l (List.replicate l.length false)≤6000) (h:Hp) (hrom:h.rom=r) (hb:h.base≤h.next) :
  Sns Try.prog 33 [.agg #[.slice Av l.length c],.string rule] h (RFirstV l rule h):=by
 refine sns_go wf Try.func33 rfl rfl (n:=27) rfl (by kernel_rfl) rfl ?_
 intro a hn hg
 have hr:Try.f33.results.toList=[.tmp 4,.tmp 5]:=rfl
 have g0:=hg 0
 have g1:=hg 1
 clear hg
 simp only [List.getElem?_cons_zero,List.getElem?_cons_succ] at g0 g1
 have hnl:(nms l).length=l.length:=by simp [nms]
 have hP:=own_new hb 24 [.slice Av l.length c]
 have hx0:=Ext.new h (CObj.cells ⟨[.slice Av l.length c],24,0,0,false⟩)
 simp -dsimp only [go_sem,g0,g1,loads_own hP]
 generalize h.newH (CObj.cells ⟨[.slice Av l.length c],24,0,0,false⟩)=h2 at hP hx0 ⊢
 have hb2:h2.base≤h2.next:=by rw [hx0.base];exact Nat.le_trans hb hx0.next
 have hrom2:h2.rom=r:=hx0.rom.trans hrom
 obtain ⟨_,h3,hs3,hx3,hv⟩:=refFine_c R hft h2 hrom2 hb2
 refine call_snd hs3 ?_
 have hb3:h3.base≤h3.next:=by rw [hx3.base];exact Nat.le_trans hb2 hx3.next
 have hx03:=hx0.trans hx3
 have hrom3:h3.rom=r:=hx03.rom.trans hrom
 have hP3:=own_ext hx3 hP
 by_cases hrg:rightG l=true
 rotate_left
 ·rw [if_neg hrg] at hv
  subst hv
  simp -dsimp only [go_sem,Bool.not_false,hr]
  exact ⟨hx03,.inr ⟨fun c=>hrg c.1,rfl⟩⟩
 rw [if_pos hrg] at hv
 obtain ⟨em0,hF0,rfl⟩:=hv
 cases hfi:fineB l em0 with
 | false =>
   simp -dsimp only [go_sem,Bool.not_false,hr]
   refine ⟨hx03,.inr ⟨?_,rfl⟩⟩
   rintro ⟨_,em,e2,e3⟩
   rw [hF0.uniq e2] at hfi
   unfold withB at e3
   rw [hfi] at e3
   cases e3
 | true =>
   simp -dsimp only [go_sem,Bool.not_true,loads_own hP3,g1]
   obtain ⟨_,h4,hs4,rfl,hx4⟩:=find_c R rule h3 hrom3 hb3
   refine call_snd hs4 ?_
   have hx04:=hx03.trans hx4
   have hb4:h4.base≤h4.next:=by rw [hx04.base];exact Nat.le_trans hb hx04.next
   have hrom4:h4.rom=r:=hx04.rom.trans hrom
   have hP4:=own_ext hx4 hP3
   rw [findB_idx,hnl]
   by_cases hidx:idxOf (nms l) rule<l.length
   rotate_left
   ·rw [if_neg hidx]
    simp -dsimp only [go_sem,show decide ((-1:Int)<0)=true from rfl,hr]
    refine ⟨hx04,.inr ⟨?_,rfl⟩⟩
    rintro ⟨_,em,e2,e3⟩
    unfold withB at e3
    rw [Bool.and_eq_true] at e3
    exact hidx (of_decide_eq_true e3.2)
   rw [if_pos hidx,Nat.zero_add]
   have hneg:decide (((idxOf (nms l) rule:Nat):Int)<0)=false:=decide_eq_false (by omega)
   have hx5:=Ext.new h4 (CObj.cells ⟨[.slice none 0 0],25,0,0,false⟩)
   have hob:=own_new hb4 25 [.slice none 0 0]
   simp -dsimp only [go_sem,hneg]
   have hhn:(h4.newH (CObj.cells ⟨[.slice none 0 0],25,0,0,false⟩)).next=h4.next+1:=rfl
   have hb5:=Nat.le_succ_of_le (m:=h4.next) hb4
   generalize h4.newH (CObj.cells ⟨[.slice none 0 0],25,0,0,false⟩)=h5 at hob hx5 hhn ⊢
   have hb5:h5.base≤h5.next:=by rw [hx5.base,hhn];exact hb5
   have hok:firstOk l rule:=⟨hrg,em0,hF0,by unfold withB;rw [hfi,decide_eq_true hidx];rfl⟩
   obtain ⟨hfr,hnm⟩:=rightG_named hrg
   have hrl:rightRs (nms l) l=true:=by
    have:=hrg
    rw [rightG,Bool.and_eq_true,Bool.and_eq_true] at this
    exact this.2
   obtain ⟨q1,q2,q3⟩:=laid_one (h:=h5) (k:=10) (i:=8) (c:=(List.replicate l.length false).map .bool) (e:=4) rfl
   obtain ⟨H0,hH0⟩:∃H0,laid h5 10 [(8,.cells ⟨(List.replicate l.length false).map .bool,4,0,0,false⟩)]=H0:=⟨_,rfl⟩
   rw [hH0] at q1 q2 q3
   have hx0H:=hx04.trans (hx5.trans q1)
   have hrom0:H0.rom=r:=hx0H.rom.trans hrom
   have hb0:H0.base≤H0.next:=by rw [hx0H.base];exact Nat.le_trans hb hx0H.next
   have hP0:=own_ext (hx5.trans q1) hP4
   have ho0:=own_ext q1 hob
   have ht0:H0.own (h5.next+8) 4 ((List.replicate l.length false).map .bool):=⟨by rw [q1.base];omega,by rw [q3];omega,q2⟩
   obtain ⟨_,h6,hs6,hx6,eb,em,rfl,heb,hE,hel,hF⟩:=empties_c R hnm H0 hrom0 hb0
   have hP6:=own_ext hx6 hP0
   have ho6:=own_ext hx6 ho0
   have ht6:=own_ext hx6 ht0
   have hrom6:h6.rom=r:=hx6.rom.trans hrom0
   have hb6:h6.base≤h6.next:=by rw [hx6.base];exact Nat.le_trans hb0 hx6.next
   obtain ⟨_,h7,hs7,hx7,s',hR7,hS7,_⟩:=rfirst_c R (rightRs_get hrl) (em:=em) (eb:=eb) (tb:=h5.next+8) (ob:=h4.next) hel (by omega) (by omega) (by omega) _ _ (ruleP rule) (Nat.lt_succ_self _) h6 _ (List.replicate l.length false,[]) hrom6 hb6 hE (ro_ruleP r rule) (ruleP_right (by rw [hnl];exact hidx))
    ⟨ht6,⟨.slice none 0 0,ho6,.inl ⟨rfl,rfl⟩⟩,by simp⟩ (Nat.le_refl _) (by
     simp only [wSt,ruleP,psz,pszL,List.length_nil]
     omega)
   refine dn_make (H0:=H0) wf [[],[],[1],[],[3],[],[5],[5,6],[5,6,7],[0,1,2,3,4,5,6,7,8]] (n:=27) (by simp -dsimp only [go_sem,hn]) (by kernel_rfl) hH0 ?_
   simp -dsimp only [go_sem,g1,loads_own hP0,load_own hP0,loads_own hP6,load_own hP6,ms105 l.length l.length (Nat.le_refl _) R.hb,repeat_bool,laidAs_bools,q2,ht6.2.2,sameN_sliceA R.hs]
   refine ⟨_,h6,hs6,?_⟩
   simp -dsimp only [go_sem,g1,loads_own hP0,load_own hP0,loads_own hP6,load_own hP6,ms105 l.length l.length (Nat.le_refl _) R.hb,repeat_bool,laidAs_bools,q2,ht6.2.2,sameN_sliceA R.hs]
   refine ⟨_,h7,hs7,?_⟩
   obtain ⟨u,hu,hO⟩:=hS7.out
   simp -dsimp only [go_sem,load_own hu,hr]
   have hx07:Ext h h7:=((hx0H.trans hx6).toS.trans hx7).ext (fun x hx c=>by
    have:=hx04.next
    rcases c with c|c<;>omega)
   exact ⟨hx07,.inl ⟨hok,em,s',u,hF,hR7,rfl,fun h2 x=>(hO.ext x).strsAt⟩⟩
end Go.Ev.G24
end
section
namespace Go.Ev.G24
open Go.RowKit Go.Proofs
theorem bytesLess_eq2:∀(x y:List UInt8),Op.bytesLess x y=decide (x<y)
 | _,[]=>by simp [Op.bytesLess]
 | [],_::_=>by simp [Op.bytesLess]
 | a::x,b::y=>by
   have ih:=bytesLess_eq2 x y
   simp only [Op.bytesLess,ih,List.cons_lt_cons_iff]
   by_cases c1:a<b
   ·simp [c1]
   ·by_cases c2:a=b
    ·subst c2;simp [c1]
    ·simp [c1,c2]
theorem ltB_iff (x s:ByteArray):ltB x s=decide (x.data.toList<s.data.toList):=by
 unfold ltB
 rw [bytesLt_less,bytesLess_eq2]
theorem ba_ext {x s:ByteArray} (h:x.data.toList=s.data.toList):x=s:=ByteArray.ext (Array.ext' h)
def SortedB (ss:List ByteArray):Prop:=ss.Pairwise fun x y=>x.data.toList<y.data.toList
theorem posB_split {ss:List ByteArray} {s:ByteArray} (h:SortedB ss):(∀x∈ss.take (posB ss s),x.data.toList<s.data.toList)∧(∀x∈ss.drop (posB ss s),¬x.data.toList<s.data.toList):=by
 constructor
 ·intro x hx
  obtain ⟨j,hj,rfl⟩:=List.mem_take_iff_getElem.1 hx
  obtain ⟨hj2,h2⟩:=posB_lt (ss:=ss) (s:=s) (j:=j) (by omega)
  rw [ltB_iff] at h2
  exact of_decide_eq_true h2
 ·intro x hx hlt
  obtain ⟨j,hj,rfl⟩:=List.mem_drop_iff_getElem.1 hx
  have hp:posB ss s<ss.length:=by omega
  have h3:(!ltB (ss[posB ss s]) s)=true:=List.findIdx_getElem (w:=hp)
  rw [ltB_iff] at h3
  simp only [Bool.not_eq_true',decide_eq_false_iff_not] at h3
  rcases Nat.eq_zero_or_pos j with e|e
  ·subst e
   exact h3 (by simpa using hlt)
  ·have:=List.pairwise_iff_getElem.1 h (posB ss s) (posB ss s+j) hp (by omega) (by omega)
   exact h3 (List.lt_trans this hlt)
theorem insB_mem {ss:List ByteArray} {s:ByteArray} (h:SortedB ss) (hm:s∈ss):insB ss s=ss:=by
 obtain ⟨h1,h2⟩:=posB_split (s:=s) h
 have hp:posB ss s<ss.length:=by
  rcases Nat.lt_or_ge (posB ss s) ss.length with c|c
  ·exact c
  ·rw [List.take_of_length_le c] at h1
   exact absurd (h1 s hm) (List.lt_irrefl _)
 unfold insB
 rw [List.getElem?_eq_getElem hp]
 have hat:ss[posB ss s].data.toList=s.data.toList:=by
  have hd:s∈ss.drop (posB ss s):=by
   rw [←List.take_append_drop (posB ss s) ss] at hm
   rcases List.mem_append.1 hm with c|c
   ·exact absurd (h1 s c) (List.lt_irrefl _)
   ·exact c
  obtain ⟨j,hj,e⟩:=List.mem_drop_iff_getElem.1 hd
  rcases Nat.eq_zero_or_pos j with e0|e0
  ·subst e0
   exact congrArg (fun x:ByteArray=>x.data.toList) (by simpa using e)
  ·have hlt:=List.pairwise_iff_getElem.1 h (posB ss s) (posB ss s+j) hp (by omega) (by omega)
   rw [e] at hlt
   have:ss[posB ss s]∈ss.drop (posB ss s):=List.mem_drop_iff_getElem.2 ⟨0,by omega,by simp⟩
   exact absurd hlt (h2 _ this)
 exact if_pos hat
theorem insB_new {ss:List ByteArray} {s:ByteArray} (h:SortedB ss) (hm:s∉ss):insB ss s=ss.take (posB ss s)++[s]++ss.drop (posB ss s)∧SortedB (insB ss s):=by
 obtain ⟨h1,h2⟩:=posB_split (s:=s) h
 have e:insB ss s=ss.take (posB ss s)++[s]++ss.drop (posB ss s):=by
  unfold insB
  cases hx:ss[posB ss s]? with
  | none=>rfl
  | some x=>exact if_neg (fun c=>hm (by rw [←ba_ext c];exact List.mem_of_getElem? hx))
 refine ⟨e,?_⟩
 have h3:∀x∈ss.drop (posB ss s),s.data.toList<x.data.toList:=by
  intro x hx
  by_cases c:s.data.toList<x.data.toList
  ·exact c
  ·have c2:=List.le_antisymm (List.not_lt.1 c) (List.not_lt.1 (h2 x hx))
   exact absurd (by rw [←ba_ext c2];exact List.mem_of_mem_drop hx) hm
 rw [e]
 unfold SortedB at h ⊢
 rw [←List.take_append_drop (posB ss s) ss,List.pairwise_append] at h
 obtain ⟨p1,p2,p3⟩:=h
 rw [List.append_assoc,List.pairwise_append]
 refine ⟨p1,?_,?_⟩
 ·rw [List.singleton_append,List.pairwise_cons]
  exact ⟨h3,p2⟩
 ·intro x hx y hy
  rcases List.mem_append.1 hy with c|c
  ·rw [List.mem_singleton.1 c]
   exact h1 x hx
  ·exact p3 x hx y c
theorem idxOf_mem {ks:List ByteArray} {s:ByteArray}:idxOf ks s<ks.length↔s∈ks:=by
 constructor
 ·intro h
  exact List.mem_of_getElem? (idxOf_at h)
 ·intro h
  unfold idxOf
  exact List.findIdx_lt_length_of_exists ⟨s,h,by simp⟩
theorem ins_keys:∀(log:List ByteArray),SortedB (insAll log)∧(insAll log).Perm (keysOf log):=by
 intro log
 suffices ∀r:List ByteArray,SortedB (insAll r.reverse)∧(insAll r.reverse).Perm (keysOf r.reverse) by
  have:=this log.reverse
  rwa [List.reverse_reverse] at this
 intro r
 induction r with
 | nil=>exact ⟨List.Pairwise.nil,.nil⟩
 | cons s r ih =>
   obtain ⟨h1,h2⟩:=ih
   rw [List.reverse_cons]
   generalize r.reverse=log at h1 h2 ⊢
   rw [insAll_snoc,keysOf_snoc]
   unfold addKey
   by_cases hm:s∈insAll log
   ·rw [insB_mem h1 hm,if_pos (idxOf_mem.2 (h2.mem_iff.1 hm))]
    exact ⟨h1,h2⟩
   ·obtain ⟨e,h3⟩:=insB_new h1 hm
    refine ⟨h3,?_⟩
    rw [e,if_neg (fun c=>hm (h2.mem_iff.2 (idxOf_mem.1 c)))]
    refine List.Perm.trans ?_ (h2.append_right [s])
    have:=List.perm_append_comm_assoc (insAll log |>.take (posB (insAll log) s)) [s] (insAll log |>.drop (posB (insAll log) s))
    rw [List.append_assoc]
    refine this.trans ?_
    rw [List.take_append_drop]
    exact List.perm_append_comm
theorem insAll_sortB (log:List ByteArray):insAll log=sortB (keysOf log):=by
 obtain ⟨h1,h2⟩:=ins_keys log
 rw [←sortB_perm h2]
 have hmap:(insAll log).map (fun s=>s.data.toList)=sortL ((insAll log).map fun s=>s.data.toList):=by
  unfold sortL
  symm
  refine List.mergeSort_of_pairwise ?_
  rw [List.pairwise_map]
  exact h1.imp (fun h=>by simpa using List.le_of_lt h)
 unfold sortB
 rw [←hmap,List.map_map]
 symm
 exact (List.map_congr_left (fun s _=>by rfl)).trans (List.map_id _)
end Go.Ev.G24
end
section
namespace Go.Ev.G24
open Go.RowKit Go.Proofs
variable {r:Ro} {l:List Rule}
def AnsP (ss:List ByteArray) (k:Int) (h:Hp) (v:Value) (h1:Hp):Prop:=Ext h h1∧∃nv,v=.tuple #[nv,.int .i64 k]∧∀h2,Ext h1 h2→StrsAt h2 nv ss
theorem strsAt_nil (h:Hp):StrsAt h (.slice none 0 0) []:=⟨none,0,rfl,rfl,fun c=>absurd rfl c⟩
theorem rec_ans (l:List Rule):∃ss k,ss.length≤l.length∧(∀h v h1,NamesP (rightG l=true) (fun em=>pickN l (recB l em)) l h v h1→AnsP ss k h v h1)∧(∀h v h1,RecP l h v h1→AnsP ss k h v h1):=by
 by_cases hok:rightG l=true∧∃em,Found l em
 ·obtain ⟨hr,em,hF⟩:=hok
  refine ⟨pickN l (recB l em),0,pickN_len _ _,?_,?_⟩
  ·rintro h v h1 ⟨hx,⟨_,em',nv,hF',rfl,hO⟩|⟨c,_⟩⟩
   ·rw [hF.uniq hF']
    exact ⟨hx,nv,rfl,fun h2 x=>OwnE.strsAt (hO.ext x)⟩
   ·exact absurd hr c
  ·rintro h v h1 ⟨hx,hv⟩
   rw [if_pos hr] at hv
   obtain ⟨em',nv,n0,f0,hF',rfl,_,_,hO⟩:=hv
   rw [hF.uniq hF']
   exact ⟨hx,nv,rfl,fun h2 x=>OwnE.strsAt (hO.ext x)⟩
 ·refine ⟨[],240,Nat.zero_le _,?_,?_⟩
  ·rintro h v h1 ⟨hx,⟨c,em',nv,hF',_⟩|⟨_,rfl⟩⟩
   ·exact absurd ⟨c,em',hF'⟩ hok
   ·exact ⟨hx,_,rfl,fun h2 x=>strsAt_nil h2⟩
  ·rintro h v h1 ⟨hx,hv⟩
   split at hv
   ·rename_i c
    obtain ⟨em',_,_,_,hF',_⟩:=hv
    exact absurd ⟨c,em',hF'⟩ hok
   ·subst hv
    exact ⟨hx,_,rfl,fun h2 x=>strsAt_nil h2⟩
theorem emp_ans (l:List Rule):∃ss k,ss.length≤l.length∧∀h v h1,NamesP (fineG l) (fun em=>pickN l em) l h v h1→AnsP ss k h v h1:=by
 by_cases hok:fineG l∧∃em,Found l em
 ·obtain ⟨hr,em,hF⟩:=hok
  refine ⟨pickN l em,0,pickN_len _ _,?_⟩
  rintro h v h1 ⟨hx,⟨_,em',nv,hF',rfl,hO⟩|⟨c,_⟩⟩
  ·rw [hF.uniq hF']
   exact ⟨hx,nv,rfl,fun h2 x=>OwnE.strsAt (hO.ext x)⟩
  ·exact absurd hr c
 ·refine ⟨[],240,Nat.zero_le _,?_⟩
  rintro h v h1 ⟨hx,⟨c,em',nv,hF',_⟩|⟨_,rfl⟩⟩
  ·exact absurd ⟨c,em',hF'⟩ hok
  ·exact ⟨hx,_,rfl,fun h2 x=>strsAt_nil h2⟩
theorem log_len {rule:ByteArray} {em:List Bool} {s':StF} (hun:unW l (List.replicate l.length false)≤6000) (hR:RunsF l em (.part (ruleP rule)) (List.replicate l.length false,[]) s'):(keysOf s'.2).length≤100000:=by
 have h1:=hR.W (by simp)
 have h2:=keysOf_len s'.2 []
 simp only [wSt,tsz,ruleP,psz,pszL,List.length_nil] at h1
 unfold keysOf
 rw [List.length_nil] at h2
 omega
theorem first_ans (l:List Rule) (rule:ByteArray) (hun:unW l (List.replicate l.length false)≤6000):∃ss k,ss.length≤100000∧(∀h v h1,FirstV l rule h v h1→AnsP ss k h v h1)∧(∀h v h1,RFirstV l rule h v h1→AnsP ss k h v h1):=by
 by_cases hok:firstOk l rule∧∃em s',Found l em∧RunsF l em (.part (ruleP rule)) (List.replicate l.length false,[]) s'
 ·obtain ⟨hr,em,s',hF,hR⟩:=hok
  refine ⟨sortB (keysOf s'.2),0,by rw [sortB_len];exact log_len hun hR,?_,?_⟩
  ·rintro h v h1 ⟨hx,⟨_,em',s2,nv,hF',hR',rfl,hO⟩|⟨c,_⟩⟩
   ·rw [←hF.uniq hF'] at hR'
    rw [hR.det hR']
    exact ⟨hx,nv,rfl,hO⟩
   ·exact absurd hr c
  ·rintro h v h1 ⟨hx,⟨_,em',s2,nv,hF',hR',rfl,hO⟩|⟨c,_⟩⟩
   ·rw [←hF.uniq hF'] at hR'
    rw [hR.det hR',←insAll_sortB]
    exact ⟨hx,nv,rfl,hO⟩
   ·exact absurd hr c
 ·refine ⟨[],240,Nat.zero_le _,?_,?_⟩
  ·rintro h v h1 ⟨hx,⟨c,em',s2,nv,hF',hR',_⟩|⟨_,rfl⟩⟩
   ·exact absurd ⟨c,em',s2,hF',hR'⟩ hok
   ·exact ⟨hx,_,rfl,fun h2 x=>strsAt_nil h2⟩
  ·rintro h v h1 ⟨hx,⟨c,em',s2,nv,hF',hR',_⟩|⟨_,rfl⟩⟩
   ·exact absurd ⟨c,em',s2,hF',hR'⟩ hok
   ·exact ⟨hx,_,rfl,fun h2 x=>strsAt_nil h2⟩
def Hp.more (h:Hp):Hp:={ h with next:=h.next+1 }
theorem ext_more (h:Hp):Ext h (Hp.more h):=⟨rfl,rfl,Nat.le_succ _,fun _ _=>rfl,Nat.le_refl _,fun _ _=>rfl⟩
theorem snd_more {P:Program} {f:FuncId} {args:List Value} {v:Value} {h h1:Hp} (s:Snd P f args h v h1):Snd P f args h v (Hp.more h1) :=
 ⟨s.1,fun ρ N w args' H A=>(s.2 ρ N w args' H A).mono fun _ _ ⟨ρ1,u,e,q1,q2,q3,q4⟩=>⟨ρ1,u,e,q1,(HR.room (n:=N.n) (g:=N.g) q2 1).less (fun b hb=>.inl hb),q3,q4⟩⟩
theorem same_more {a:List ByteArray} {v u:Value} (h:Hp) (ha:StrsAt h v a) (hb:StrsAt h u a) (hl:a.length≤1000000):Snd Try.prog 19 [v,u] h (.bool true) (Hp.more h):=by
 obtain ⟨w,h1,hs,rfl,rfl⟩:=sameTexts_c h ha hb hl
 rw [sameL_refl] at hs
 exact snd_more hs
end Go.Ev.G24
end
section
namespace Go.Proofs.Ytcnllhnhinmokaa
open Go.Ev Go.RowKit
theorem follows:Try.prog.follows .mixedOrders=true:=by kernel_rfl
theorem awake_run:truly Try.prog 60 12=true:=by kernel_rfl
def manystrandlaw24_awake.f:Option Bool:=some true
theorem manystrandlaw24_awake.calls (r:Bool) (w:World) (h:manystrandlaw24_awake.f=some r) :
  Calls Try.prog 12 #[] w fun e w'=>e=.returned (.bool r)∧Below w.heap.size w w':=by
 unfold manystrandlaw24_awake.f at h
 injection h with h
 subst h
 exact closed_true (wfp_of follows) awake_run w
end Go.Proofs.Ytcnllhnhinmokaa
end
section
namespace Go.Ev.G24
open Go.RowKit Go.Proofs
variable {r:Ro} {G:List Rule} {items:List ByteArray} {Gv Iv:Option Addr} {gc ic:Nat}
theorem vrs_nil {ρ:Rho} {args':List Value} (h:VRs ρ [] args'):args'=[]:=by
 cases h
 rfl
theorem awake_c (h:Hp):Snd Try.prog 12 [] h (.bool true) h :=
 snd_calls Try.func12 rfl rfl (fun _ _=>vrs_nil) (fun _=>.bool _) (fun w=>Go.Proofs.Ytcnllhnhinmokaa.manystrandlaw24_awake.calls true w rfl) h
structure RoGram (r:Ro) (l:List Rule) (Av:Option Addr) (c b o:Nat) (css:Nat→List Value):Prop where
 hc:l.length≤c
 hb:l.length≤9223372036854775807
 hA:l≠[]→Av=some ⟨b,o,none⟩
 hat:∀(i:Nat) (x:Rule),l[i]? = some x→roAt r b (o+i*4) (.string x.name::css i)
 hk:∀(i:Nat) (x:Rule),l[i]? = some x→RoPart r x.body (css i)
 hs:spotless Av=true
end Go.Ev.G24
end
section
namespace Go.Ev
open Go.RowKit
def rowOk (ps:List (List Nat)) (i:Nat) (l:List Edge):Bool:=match edgesOk i l,(predsOf ps i).all (fun x=>l.any fun e=>Region.binds .any e&&(Nat.beq x e.on||has (predsOf ps e.on) x)),l.all (fun e => !Region.binds .any e||(has (predsOf ps i) e.on&&(predsOf ps e.on).all (has (predsOf ps i)))) with
 | true,true,true=>true
 | _,_,_=>false
def localOk (ps:List (List Nat)):Nat→List Oper→Bool
 | _,[]=>true
 | i,o::r=>match rowOk ps i o.after.toList with
   | true=>localOk ps (i+1) r
   | false=>false
theorem has_iff {l:List Nat} {i:Nat}:has l i=true↔i∈l:=has_mem
theorem has_row (acc:List (List Nat)) (x:Nat):∀l:List Edge,has (predsRow acc l) x=l.any fun e=>Region.binds .any e&&(Nat.beq x e.on||has (predsOf acc e.on) x)
 | []=>rfl
 | e::l=>by
   have ih:=has_row acc x l
   simp only [predsRow,List.any_cons]
   cases hb:Region.binds .any e with
   | false=>simp only [ih,Bool.false_and,Bool.false_or]
   | true =>
     have:has (e.on::((acc[e.on]?).getD [])++predsRow acc l) x=(Nat.beq x e.on||has (predsOf acc e.on) x||has (predsRow acc l) x):=by
      simp only [has,List.cons_append,List.any_cons,List.any_append,predsOf,Bool.or_assoc]
     simp only [this,ih,Bool.true_and]
theorem edges_lt {i:Nat}:∀{l:List Edge},edgesOk i l=true→∀e∈l,Region.binds .any e=true→e.on<i
 | e::l,h,x,hx,hb=>by
   simp only [edgesOk] at h
   cases hx with
   | head =>
     rw [hb] at h
     simp only at h
     split at h
     ·rename_i c;simpa using c
     ·cases h
   | tail _ hx =>
     split at h
     ·split at h
      ·exact edges_lt h x hx hb
      ·cases h
     ·exact edges_lt h x hx hb
theorem preds_local {ps:List (List Nat)}:∀(r:List Oper) (acc:List (List Nat)),(∀j,j<acc.length→∀x,has (predsOf acc j) x=has (predsOf ps j) x)→localOk ps acc.length r=true →
  (predsGo acc r).length=acc.length+r.length∧∀j,j<acc.length+r.length→∀x,has (predsOf (predsGo acc r) j) x=has (predsOf ps j) x
 | [],acc,h,_=>⟨rfl,fun j hj x=>h j hj x⟩
 | o::r,acc,h,hl=>by
   simp only [localOk] at hl
   split at hl
   ·rename_i hrow
    unfold rowOk at hrow
    split at hrow
    ·rename_i h1 h2 h3
     have row:∀x,has (predsRow acc o.after.toList) x=has (predsOf ps acc.length) x:=by
      intro x
      rw [has_row,Bool.eq_iff_iff]
      constructor
      ·intro hx
       obtain ⟨e,he,hx⟩:=List.any_eq_true.1 hx
       rw [Bool.and_eq_true] at hx
       obtain ⟨hb,hx⟩:=hx
       have hlt:=edges_lt h1 e he hb
       have:=List.all_eq_true.1 h3 e he
       rw [hb,Bool.not_true,Bool.false_or,Bool.and_eq_true] at this
       rw [Bool.or_eq_true] at hx
       rcases hx with hx|hx
       ·rw [Nat.eq_of_beq_eq_true hx]
        exact this.1
       ·rw [h _ hlt] at hx
        exact List.all_eq_true.1 this.2 x (has_iff.1 hx)
      ·intro hx
       have:=List.all_eq_true.1 h2 x (has_iff.1 hx)
       obtain ⟨e,he,hx⟩:=List.any_eq_true.1 this
       rw [Bool.and_eq_true] at hx
       obtain ⟨hb,hx⟩:=hx
       refine List.any_eq_true.2 ⟨e,he,?_⟩
       rw [hb,Bool.true_and,h _ (edges_lt h1 e he hb)]
       exact hx
     have hlen:(acc++[predsRow acc o.after.toList]).length=acc.length+1:=by simp
     obtain ⟨q1,q2⟩:=preds_local (ps:=ps) r (acc++[predsRow acc o.after.toList]) (fun j hj x=>by
      rw [hlen] at hj
      by_cases c:j<acc.length
      ·rw [←h j c x]
       unfold predsOf
       rw [List.getElem?_append_left c]
      ·have:j=acc.length:=by omega
       subst this
       rw [←row x]
       unfold predsOf
       rw [List.getElem?_append_right (Nat.le_refl _)]
       simp) (by rw [hlen];exact hl)
     rw [hlen] at q1 q2
     refine ⟨?_,fun j hj x => ?_⟩
     ·simp only [predsGo,q1,List.length_cons]
      omega
     ·simp only [predsGo]
      exact q2 j (by rw [List.length_cons] at hj;omega) x
    ·cases hrow
   ·cases hl
theorem pairOk_congr {m:Bool} {arr:Array Oper} {ps qs:List Nat} (k:∀x,has ps x=has qs x) (y:Oper):∀(l:List Oper) (i:Nat),pairOk m arr ps y i l=pairOk m arr qs y i l
 | [],_=>rfl
 | x::l,i=>by simp only [pairOk,k,pairOk_congr k y l]
theorem orderGo_congr {m:Bool} {ops:List Oper} {arr:Array Oper} {ps qs:List (List Nat)} (k:∀j x,has (predsOf ps j) x=has (predsOf qs j) x):∀(r:List Oper) (j:Nat),orderGo m ops arr ps j r=orderGo m ops arr qs j r
 | [],_=>rfl
 | y::r,j=>by simp only [orderGo,pairOk_congr (k j),orderGo_congr k r]
def textFast (m:Bool) (n:Nat) (ps:List (List Nat)) (ops:List Oper):Bool:=match localOk ps 0 ops,Nat.beq ps.length ops.length,orderGo m ops ops.toArray ps 0 ops,fwdOk ps,ops.all (fun o=>dstOk n o.dst) with
 | true,true,true,true,true=>true
 | _,_,_,_,_=>false
theorem text_fast {m:Bool} {n:Nat} {ps:List (List Nat)} {ops:List Oper} (h:textFast m n ps ops=true):orderOk m ops=true∧fwdOk ps=true∧ops.all (fun o=>dstOk n o.dst)=true∧sameSets (preds ops) ps=true:=by
 unfold textFast at h
 split at h
 ·rename_i h1 h2 h3 h4 h5
  have hl:ps.length=ops.length:=by simpa using h2
  obtain ⟨q1,q2⟩:=preds_local (ps:=ps) ops [] (fun j hj=>absurd hj (Nat.not_lt_zero _)) h1
  rw [List.length_nil,Nat.zero_add] at q1 q2
  have k:∀j x,has (predsOf (preds ops) j) x=has (predsOf ps j) x:=by
   intro j x
   by_cases c:j<ops.length
   ·exact q2 j c x
   ·have e1:predsOf (preds ops) j=[]:=by
     unfold predsOf
     rw [List.getElem?_eq_none (by unfold preds;omega)]
     rfl
    have e2:predsOf ps j=[]:=by
     unfold predsOf
     rw [List.getElem?_eq_none (by omega)]
     rfl
    rw [e1,e2]
  refine ⟨?_,h4,h5,?_⟩
  ·unfold orderOk
   rw [orderGo_congr k]
   exact h3
  ·unfold sameSets
   have:Nat.beq (preds ops).length ps.length=true:=by
    rw [show (preds ops).length=ops.length from q1,hl]
    simp
   rw [this]
   refine List.all_eq_true.2 fun j _ => ?_
   rw [Bool.and_eq_true]
   exact ⟨List.all_eq_true.2 fun x hx=>by rw [←k];exact has_iff.2 hx,List.all_eq_true.2 fun x hx=>by rw [k];exact has_iff.2 hx⟩
 ·cases h
theorem textOk_fast {n:Nat} {ps:List (List Nat)} {ops:List Oper} (h:textFast false n ps ops=true):textOk n ps ops=true:=by
 obtain ⟨h1,h2,h3,h4⟩:=text_fast h
 unfold textOk
 rw [h1,h2,h3,h4]
end Go.Ev
end
section
namespace Go.Ev.G24
open Go.RowKit Go.Proofs
variable {r:Ro} {G:List Rule} {Gv:Option Addr} {gc:Nat}
theorem StrsAt.same {h:Hp} {v:Value} {ss:List ByteArray} (k:StrsAt h v ss) (j:Nat):sameV j v v=true:=by
 obtain ⟨A,c,rfl,hs,_⟩:=k
 exact sameN_sliceA hs _ _ _
theorem snd_more_ne (h:Hp):¬h=Hp.more h:=fun c=>by
 have:=congrArg Hp.next c
 exact absurd this (Nat.ne_of_lt (Nat.lt_succ_self _))
theorem snd_more_ne2 (h:Hp):¬h=Hp.more (Hp.more h):=fun c=>by
 have:h.next=h.next+2:=congrArg Hp.next c
 omega
set_option maxHeartbeats 16000000 in
set_option maxRecDepth 10000 in
theorem law9_s {gb go:Nat} {gcss:Nat→List Value} (RG:RoGram r G Gv gc gb go gcss) (rule:ByteArray) (h:Hp) (hrom:h.rom=r) (hb:h.base≤h.next) :
  Sns Try.prog 9 [.agg #[.slice Gv G.length gc],.string rule] h (fun v _=>v=.bool true):=by
 refine sns_go wf Try.func9 rfl rfl (n:=96) rfl (by kernel_rfl) rfl ?_
 intro a hn hg
 have hr:Try.f9.results.toList=[.tmp 4]:=rfl
 have g0:=hg 0
 have g1:=hg 1
 clear hg
 simp only [List.getElem?_cons_zero,List.getElem?_cons_succ] at g0 g1
 have hG:=own_new hb 24 [.slice Gv G.length gc]
 have hx0:=Ext.new h (CObj.cells ⟨[.slice Gv G.length gc],24,0,0,false⟩)
 simp -dsimp only [go_sem,g0,g1,next_newH,loads_own hG]
 generalize (h.newH (CObj.cells ⟨[.slice Gv G.length gc],24,0,0,false⟩))=h2 at hG hx0 ⊢
 have hb2:h2.base≤h2.next:=by rw [hx0.base];exact Nat.le_trans hb hx0.next
 have hrom2:h2.rom=r:=hx0.rom.trans hrom
 obtain ⟨_,h3,hs3,rfl,hx3⟩:=small_c RG.hb RG.hA RG.hat RG.hk (c:=gc) (most:=200) (by decide) h2 hrom2 hb2
 have hs3':Snd Try.prog 10 [.agg #[.slice Gv G.length gc],.int .i64 200] h2 (.bool (smallB 200 G)) h3:=hs3
 refine call_snd hs3' ?_
 have hrom3:h3.rom=r:=hx3.rom.trans hrom2
 have hb3:h3.base≤h3.next:=by rw [hx3.base];exact Nat.le_trans hb2 hx3.next
 have hG3:=own_ext hx3 hG
 cases hsm:smallB 200 G with
 | false =>
   simp -dsimp only [go_sem,undef',Bool.not_false]
   refine call_snd (awake_c h3) ?_
   simp -dsimp only [go_sem,hr]
 | true =>
   by_cases hln:200<rule.data.toList.length
   ·have k1:decide ((200:Int)<(rule.data.toList.length:Int))=true:=decide_eq_true (by omega)
    simp -dsimp only [go_sem,undef',Bool.not_true,g1,k1]
    refine call_snd (awake_c h3) ?_
    simp -dsimp only [go_sem,hr]
   ·have k1:decide ((200:Int)<(rule.data.toList.length:Int))=false:=decide_eq_false (by omega)
    obtain ⟨hGl,hft,hfw⟩:=small_fit (by decide) hsm
    have R:RoRules r G Gv gc gb go gcss:=⟨RG.hc,by omega,RG.hA,RG.hat,RG.hk,RG.hs⟩
    have hun:=unW_small hsm hGl (List.replicate G.length false)
    obtain ⟨s1,c1,l1,A1,B1⟩:=rec_ans G
    obtain ⟨s2,c2,l2,A2⟩:=emp_ans G
    obtain ⟨s3,c3,l3,A3,B3⟩:=first_ans G rule hun
    simp -dsimp only [go_sem,undef',Bool.not_true,g1,k1,loads_own hG3]
    obtain ⟨v4,h4,hs4,q4⟩:=recursiveL_c R hft h3 hrom3 hb3
    obtain ⟨x4,n4,rfl,y4⟩:=A1 _ _ _ q4
    have hrom4:h4.rom=r:=x4.rom.trans hrom3
    have hb4:h4.base≤h4.next:=by rw [x4.base];exact Nat.le_trans hb3 x4.next
    have hG4:=own_ext x4 hG3
    refine call_snd hs4 ?_
    simp -dsimp only [go_sem,loads_own hG4]
    obtain ⟨v5,h5,hs5,q5⟩:=refRec_c R hft h4 hrom4 hb4
    obtain ⟨x5,n5,rfl,y5⟩:=B1 _ _ _ q5
    have hrom5:h5.rom=r:=x5.rom.trans hrom4
    have hb5:h5.base≤h5.next:=by rw [x5.base];exact Nat.le_trans hb4 x5.next
    have hG5:=own_ext x5 hG4
    refine call_snd hs5 ?_
    simp -dsimp only [go_sem,loads_own hG5]
    obtain ⟨v6,h6,hs6,q6⟩:=emptyL_c R hft h5 hrom5 hb5
    obtain ⟨x6,n6,rfl,y6⟩:=A2 _ _ _ q6
    have hrom6:h6.rom=r:=x6.rom.trans hrom5
    have hb6:h6.base≤h6.next:=by rw [x6.base];exact Nat.le_trans hb5 x6.next
    have hG6:=own_ext x6 hG5
    refine call_snd hs6 ?_
    simp -dsimp only [go_sem,loads_own hG6]
    obtain ⟨v7,h7,hs7,q7⟩:=refEmptyL_c R hft h6 hrom6 hb6
    obtain ⟨x7,n7,rfl,y7⟩:=A2 _ _ _ q7
    have hrom7:h7.rom=r:=x7.rom.trans hrom6
    have hb7:h7.base≤h7.next:=by rw [x7.base];exact Nat.le_trans hb6 x7.next
    have hG7:=own_ext x7 hG6
    refine call_snd hs7 ?_
    simp -dsimp only [go_sem,loads_own hG7,g1]
    refine call_sns (firstL_s R hft rule (fun em s' _ hR=>log_len hun hR) h7 hrom7 hb7) (fun v8 h8 q8 => ?_)
    obtain ⟨x8,n8,rfl,y8⟩:=A3 _ _ _ q8
    have hrom8:h8.rom=r:=x8.rom.trans hrom7
    have hb8:h8.base≤h8.next:=by rw [x8.base];exact Nat.le_trans hb7 x8.next
    have hG8:=own_ext x8 hG7
    simp -dsimp only [go_sem,loads_own hG8,g1]
    refine call_sns (refFirst_s R hft rule hun h8 hrom8 hb8) (fun v9 h9 q9 => ?_)
    obtain ⟨x9,n9,rfl,y9⟩:=B3 _ _ _ q9
    have hrom9:h9.rom=r:=x9.rom.trans hrom8
    have hb9:h9.base≤h9.next:=by rw [x9.base];exact Nat.le_trans hb8 x9.next
    have hG9:=own_ext x9 hG8
    simp -dsimp only [go_sem]
    obtain ⟨_,ha,hsa,rfl,xa⟩:=Right_c R hft h9 hrom9 hb9
    have hroma:ha.rom=r:=xa.rom.trans hrom9
    have hba:ha.base≤ha.next:=by rw [xa.base];exact Nat.le_trans hb9 xa.next
    have hGa:=own_ext xa hG9
    obtain ⟨_,hB,hsB,rfl,xB⟩:=ref_Right_c R hft ha hroma hba
    rw [refRightG_eq] at hsB
    have m1:=ext_more hB
    have m2:=ext_more (Hp.more hB)
    have z1:=same_more hB (y4 _ (x5.trans (x6.trans (x7.trans (x8.trans (x9.trans (xa.trans xB))))))) (y5 _ (x6.trans (x7.trans (x8.trans (x9.trans (xa.trans xB)))))) (by omega)
    have z2:=same_more (Hp.more hB) (y6 _ (x7.trans (x8.trans (x9.trans (xa.trans (xB.trans m1)))))) (y7 _ (x8.trans (x9.trans (xa.trans (xB.trans m1))))) (by omega)
    have z3:=same_more (Hp.more (Hp.more hB)) (y8 _ (x9.trans (xa.trans (xB.trans (m1.trans m2))))) (y9 _ (xa.trans (xB.trans (m1.trans m2)))) (by omega)
    refine dn_of_dw wf (Dw_text (n:=96) [[],[0],[],[0,1,2],[0,1,2,3],[0,1,2,3,4],[0,1,2,3,4,5],[0,1,2,3,4,5],[0,1,2,3,4,5,6,7],[0,1,2,3,4,5,6,7,8],[0,1,2,3,4,5,6,7,8,9],[0,1,2,3,4,5,6,7,8,9,10],[0,1,2,3,4,5,6,7,8,9,10],[0,1,2,3,4,5,6,7,8,9,10,11,12],[0,1,2,3,4,5,6,7,8,9,10,11,12,13],[0,1,2,3,4,5,6,7,8,9,10,11,12,13,14],[0,1,2,3,4,5,6,7,8,9,10,11,12,13,14,15],[0,1,2,3,4,5,6,7,8,9,10,11,12,13,14,15],[0,1,2,3,4,5,6,7,8,9,10,11,12,13,14,15,16,17],[0,1,2,3,4,5,6,7,8,9,10,11,12,13,14,15,16,17,18],[0,1,2,3,4,5,6,7,8,9,10,11,12,13,14,15,16,17,18,19],[0,1,2,3,4,5,6,7,8,9,10,11,12,13,14,15,16,17,18,19,20],[0,1,2,3,4,5,6,7,8,9,10,11,12,13,14,15,16,17,18,19,20],[0,1,2,3,4,5,6,7,8,9,10,11,12,13,14,15,16,17,18,19,20,21,22],[0,1,2,3,4,5,6,7,8,9,10,11,12,13,14,15,16,17,18,19,20,21,22,23],[0,1,2,3,4,5,6,7,8,9,10,11,12,13,14,15,16,17,18,19,20,21,22,23,24],[0,1,2,3,4,5,6,7,8,9,10,11,12,13,14,15,16,17,18,19,20,21,22,23,24,25],[0,1,2,3,4,5,6,7,8,9,10,11,12,13,14,15,16,17,18,19,20,21,22,23,24,25],[0,1,2,3,4,5,6,7,8,9,10,11,12,13,14,15,16,17,18,19,20,21,22,23,24,25,26,27],[0,1,2,3,4,5,6,7,8,9,10,11,12,13,14,15,16,17,18,19,20,21,22,23,24,25,26,27,28],[0,1,2,3,4,5,6,7,8,9,10,11,12,13,14,15,16,17,18,19,20,21,22,23,24,25,26,27,28,29],[0,1,2,3,4,5,6,7,8,9,10,11,12,13,14,15,16,17,18,19,20,21,22,23,24,25,26,27,28,29,30],[0,1,2,3,4,5,6,7,8,9,10,11,12,13,14,15,16,17,18,19,20,21,22,23,24,25,26,27,28,29,30],[0,1,2,3,4,5,6,7,8,9,10,11,12,13,14,15,16,17,18,19,20,21,22,23,24,25,26,27,28,29,30,31,32],[0,1,2,3,4,5,6,7,8,9,10,11,12,13,14,15,16,17,18,19,20,21,22,23,24,25,26,27,28,29,30,31,32,33],[0,1,2,3,4,5,6,7,8,9,10,11,12,13,14,15,16,17,18,19,20,21,22,23,24,25,26,27,28,29,30,31,32,33,34],[0,1,2,3,4,5,6,7,8,9,10,11,12,13,14,15,16,17,18,19,20,21,22,23,24,25,26,27,28,29,30,31,32,33,34,35],[0,1,2,3,4,5,6,7,8,9,10,11,12,13,14,15,16,17,18,19,20,21,22,23,24,25,26,27,28,29,30,31,32,33,34,35,36],[0,1,2,3,4,5,6,7,8,9,10,11,12,13,14,15,16,17,18,19,20,21,22,23,24,25,26,27,28,29,30,31,32,33,34,35,36,37]] (by simp -dsimp only [go_sem,hn]) (textOk_fast (by kernel_rfl)) ?_)
    simp -dsimp only [go_sem,loads_own hG9,loads_own hGa,sameN_sliceA R.hs]
    refine ⟨_,ha,hsa,?_⟩
    simp -dsimp only [go_sem,loads_own hG9,loads_own hGa,sameN_sliceA R.hs]
    refine ⟨_,hB,hsB,?_⟩
    have kk:(rightG G==rightG G)=true:=by simp
    have t1:sameV 9 (.bool true) (.bool true)=true:=rfl
    have e4:=(y4 h4 (Ext.refl _)).same 9
    have e5:=(y5 h5 (Ext.refl _)).same 9
    have e6:=(y6 h6 (Ext.refl _)).same 9
    have e7:=(y7 h7 (Ext.refl _)).same 9
    have e8:=(y8 h8 (Ext.refl _)).same 9
    have e9:=(y9 h9 (Ext.refl _)).same 9
    simp -dsimp only [go_sem,eql_bool,kk,t1,e4,e5,e6,e7,e8,e9]
    refine ⟨_,_,z1,?_⟩
    simp -dsimp only [go_sem,eql_bool,kk,t1,e4,e5,e6,e7,e8,e9,decide_true]
    refine ⟨_,_,z2,by simp [Fresh,snd_more_ne],?_⟩
    simp -dsimp only [go_sem,eql_bool,kk,t1,e4,e5,e6,e7,e8,e9,decide_true]
    refine ⟨_,_,z3,by simp [Fresh,snd_more_ne,snd_more_ne2],?_⟩
    simp -dsimp only [go_sem,eql_bool,kk,t1,e4,e5,e6,e7,e8,e9,decide_true]
    refine ⟨_,_,awake_c _,?_⟩
    simp -dsimp only [go_sem,eql_bool,kk,t1,e4,e5,e6,e7,e8,e9,decide_true,hr]
end Go.Ev.G24
end
section
namespace Go.Ev.G24
open Go.ChangeShapes Go.WideShapes Go.ChangeAt Go.RowKit Go.Proofs
open Go.ChangeMaps (open_string shut_string)
theorem ro_clean {w:World} {b k:Nat} {v:Value} (h:w.cell? ⟨b,k,none⟩=some v) (hv:VR (rho0 w) (cleanV v) v):(roW w).f b k=some (cleanV v):=by
 unfold roW
 simp only [h]
 rw [if_pos hv]
theorem cell_lt {w:World} {a:Addr} {v:Value} (h:w.cell? a=some v):a.spot=none∧a.block<w.heap.size:=by
 unfold World.cell? at h
 split at h
 ·rename_i c _ _ hc
  refine ⟨?_,?_⟩
  ·cases hs:a.spot with
   | none=>rfl
   | some s=>rw [hs] at h;simp at h
  ·rcases Nat.lt_or_ge a.block w.heap.size with q|q
   ·exact q
   ·rw [Array.getElem?_eq_none q] at hc;cases hc
 ·cases h
theorem addr_eta {a:Addr} (h:a.spot=none):a=⟨a.block,a.off,none⟩:=by
 cases a
 simp at h
 subst h
 rfl
theorem add_flat {a:Addr} (h:a.spot=none) (n:Nat):a.add n=⟨a.block,a.off+n,none⟩:=by
 unfold Addr.add
 split
 ·rename_i e
  subst e
  exact addr_eta h
 ·rfl
structure OkS (w:World) (A:Option Addr) (n c:Nat):Prop where
 le:n≤c
 nil:A=none→n=0∧c=0
 at':∀a,A=some a→0<c→a.spot=none∧a.block<w.heap.size
def cleanA (A:Option Addr) (c:Nat):Option Addr:=match A with
 | none=>none
 | some a=>if c=0 then some ⟨0,0,none⟩ else some a
theorem cleanV_slice (A:Option Addr) (n c:Nat):cleanV (.slice A n c)=.slice (cleanA A c) n c:=by
 cases A with
 | none=>rfl
 | some a =>
   by_cases hc:c=0<;>simp [cleanV,cleanA,hc]
theorem OkS.spotless {w:World} {A:Option Addr} {n c:Nat} (k:OkS w A n c):spotless (cleanA A c)=true:=by
 cases A with
 | none=>rfl
 | some a =>
   by_cases hc:c=0
   ·simp [cleanA,hc,Go.Ev.spotless]
   ·have:=(k.at' a rfl (by omega)).1
    simp [cleanA,hc,Go.Ev.spotless,this]
theorem OkS.vr {w:World} {A:Option Addr} {n c:Nat} (k:OkS w A n c) (hp:0<w.heap.size):VR (rho0 w) (cleanV (.slice A n c)) (.slice A n c):=by
 rw [cleanV_slice]
 cases A with
 | none =>
   obtain ⟨rfl,rfl⟩:=k.nil rfl
   exact .slNil
 | some a =>
   unfold cleanA
   by_cases hc:c=0
   ·subst hc
    have hn:n=0:=by have:=k.le;omega
    subst hn
    exact .slZero _ _ (i:=⟨0,0,0,0,true⟩) (by unfold rho0;rw [if_pos hp])
   ·have:=k.at' a rfl (by omega)
    simp only [if_neg hc]
    exact .sl (i:=⟨a.block,0,0,0,true⟩) ⟨this.1,by unfold rho0;rw [if_pos this.2],by rw [Nat.zero_add];exact addr_eta this.1⟩ (.inl rfl)
theorem choose_list {α:Type} {Q:Nat→α→Prop}:∀n,(∀i,i<n→∃y,Q i y)→∃ys:List α,ys.length=n∧∀(i:Nat) (y:α),ys[i]? = some y→Q i y
 | 0,_=>⟨[],rfl,fun i y h=>by simp at h⟩
 | n+1,h=>by
   obtain ⟨ys,h1,h2⟩:=choose_list n (fun i hi=>h i (by omega))
   obtain ⟨y,hy⟩:=h n (by omega)
   refine ⟨ys++[y],by simp [h1],fun i z hz => ?_⟩
   by_cases hi:i<ys.length
   ·rw [List.getElem?_append_left hi] at hz
    exact h2 i z hz
   ·rw [List.getElem?_append_right (by omega)] at hz
    have hin:i=n:=by
     have:=(List.getElem?_eq_some_iff.1 hz).1
     simp at this
     omega
    subst hin
    rw [h1] at hz
    simp at hz
    subst hz
    exact hy
theorem open_ro {α:Type} (K:α→List Value→Prop) {H:Type} {enc:TypeId×Value→H} {P:Program} {w:World} {base:Nat} {held:Bool} {t e:TypeId} {sz fuel:Nat} {cs:List Value} {x:DataW H×List MemPlace}
  (ht:P.underlying t=some (.slice e)) (hsz:P.cellsOf e=sz) (hpos:0<sz)
  (ih:∀n,n<fuel→∀cs x,DataW.trod enc P w base (fun _=>true) held n e cs=some x→∃y:α,K y cs)
  (h:DataW.trod enc P w base (fun _=>true) held fuel t cs=some x) :
  ∃(A:Option Addr) (c:Nat) (ys:List α) (css:Nat→List Value),cs=[.slice A ys.length c]∧OkS w A ys.length c∧ys.length≤9223372036854775807 ∧
   (∀a,A=some a→∀(i:Nat) (y:α),ys[i]? = some y→(css i).length=sz∧K y (css i)∧∀(j:Nat) (u:Value),(css i)[j]? = some u→w.cell? ⟨a.block,a.off+(i*sz+j),none⟩=some u):=by
 rcases DataW.trod_slice ht h with ⟨rfl,_⟩|⟨a,len,cap,elems,rest,n,hf,rfl,rfl,hb,hl,hm,hlen,hel,hsp,hns⟩
 ·exact ⟨none,0,[],fun _=>[],rfl,⟨Nat.le_refl _,fun _=>⟨rfl,rfl⟩,fun a e=>by cases e⟩,by simp,fun a e=>by cases e⟩
 ·obtain ⟨hrl,hrest⟩:=hsp rfl
  have first:0<cap→a.spot=none∧a.block<w.heap.size:=by
   intro hc
   have zero:∀{y:DataW H×List MemPlace},(w.cells? base a (P.cellsOf e)).bind (DataW.trod enc P w base (fun _=>true) held n e)=some y→a.spot=none∧a.block<w.heap.size:=by
    intro y hy
    obtain ⟨c,h1,h2⟩:=Option.bind_eq_some_iff.1 hy
    obtain ⟨_,hcl,hcc⟩:=World.cells?_some h1
    have:=hcc 0 (by rw [hsz];exact hpos)
    have hc0:0<c.length:=by rw [hcl,hsz];exact hpos
    rw [List.getElem?_eq_getElem hc0] at this
    have ha:a.add 0=a:=rfl
    rw [ha] at this
    exact cell_lt this
   by_cases hl0:0<len
   ·have:=hel 0 hl0
    have hi':0<elems.length:=by omega
    rw [List.getElem?_eq_getElem hi',Nat.zero_mul] at this
    exact zero this
   ·have:=hrest 0 (by omega)
    have hi':0<rest.length:=by omega
    rw [List.getElem?_eq_getElem hi',show (len+0)*P.cellsOf e=0 by rw [show len=0 by omega];simp] at this
    exact zero this
  have each:∀i,i<len→∃yc:α×List Value,yc.2.length=sz∧K yc.1 yc.2∧∀(j:Nat) (u:Value),yc.2[j]? = some u→w.cell? ⟨a.block,a.off+(i*sz+j),none⟩=some u:=by
   intro i hi
   have hi':i<elems.length:=by omega
   have:=hel i hi
   rw [List.getElem?_eq_getElem hi',hsz] at this
   obtain ⟨c,h1,h2⟩:=Option.bind_eq_some_iff.1 this
   obtain ⟨y,hy⟩:=ih n (by omega) c _ h2
   obtain ⟨_,hcl,hc⟩:=World.cells?_some h1
   refine ⟨(y,c),hcl,hy,fun j u hj => ?_⟩
   have hlt:j<c.length:=(List.getElem?_eq_some_iff.1 hj).1
   have hs:=(first (by omega)).1
   have h3:=hc j (by omega)
   rw [add_flat hs,add_flat (a:=⟨a.block,a.off+i*sz,none⟩) rfl,hj] at h3
   rw [←Nat.add_assoc]
   exact h3
  obtain ⟨ys,h1,h2⟩:=choose_list len each
  have hml:(ys.map (·.1)).length=len:=by rw [List.length_map,h1]
  refine ⟨some a,cap,ys.map (·.1),fun i=>match ys[i]? with
   | some y=>y.2
   | none=>[],by rw [hml],⟨by rw [hml];exact hl,fun e=>(by cases e),fun a' e hc=>by injection e with e;subst e;exact first hc⟩,?_,fun a' e i y hy => ?_⟩
  ·rw [hml];unfold maxLen at hm;omega
  ·injection e with e
   subst e
   rw [List.getElem?_map] at hy
   cases hyi:ys[i]? with
   | none=>rw [hyi] at hy;cases hy
   | some yc =>
     rw [hyi] at hy
     simp at hy
     subst hy
     simp only [hyi]
     exact h2 i yc hyi
theorem three {cs:List Value} {a b c:Value} (hl:cs.length=3) (h0:(cs.drop 0).take 1=[a]) (h1:(cs.drop 1).take 1=[b]) (h2:(cs.drop 2).take 1=[c]):cs=[a,b,c]:=by
 match cs,hl with
 | [x,y,z],_=>simp at h0 h1 h2;simp [h0,h1,h2]
theorem c9:Try.prog.cellsOf 9=1:=by kernel_rfl
theorem c50:Try.prog.cellsOf 50=1:=by kernel_rfl
theorem c52:Try.prog.cellsOf 52=3:=by kernel_rfl
theorem c54:Try.prog.cellsOf 54=4:=by kernel_rfl
theorem c22:Try.prog.cellsOf 22=1:=by kernel_rfl
theorem c24:Try.prog.cellsOf 24=1:=by kernel_rfl
def KPart (w:World) (y:Part) (cs:List Value):Prop:=∃(A:Option Addr) (c:Nat),cs=[.string y.d,.string y.t,.slice A y.l.length c]∧OkS w A y.l.length c∧(0<w.heap.size→RoPart (roW w) y [.string y.d,.string y.t,.slice (cleanA A c) y.l.length c])
theorem KPart.cells {w:World} {y:Part} {cs:List Value} (k:KPart w y cs) (hp:0<w.heap.size):RoPart (roW w) y (cs.map cleanV)∧∀u∈cs,VR (rho0 w) (cleanV u) u:=by
 obtain ⟨A,c,rfl,h1,h2⟩:=k
 refine ⟨by simp only [List.map_cons,List.map_nil,cleanV_slice];exact h2 hp,fun u hu => ?_⟩
 simp only [List.mem_cons,List.not_mem_nil,or_false] at hu
 rcases hu with rfl|rfl|rfl
 ·exact .string _
 ·exact .string _
 ·exact h1.vr hp
theorem ro_cells {w:World} {b o:Nat} {cc:List Value} (hb:b<w.heap.size) (h:∀(j:Nat) (u:Value),cc[j]? = some u→w.cell? ⟨b,o+j,none⟩=some u) (hv:∀u∈cc,VR (rho0 w) (cleanV u) u):roAt (roW w) b o (cc.map cleanV):=by
 refine ⟨hb,fun j v hj => ?_⟩
 rw [List.getElem?_map] at hj
 cases hc:cc[j]? with
 | none=>rw [hc] at hj;cases hj
 | some u =>
   rw [hc] at hj
   simp at hj
   subst hj
   exact ro_clean (h j u hc) (hv u (List.mem_of_getElem? hc))
theorem open_part {H:Type} {enc:TypeId×Value→H} {w:World} {base:Nat} {held:Bool}:∀(fuel:Nat) (cs:List Value) (x:DataW H×List MemPlace),
  DataW.trod enc Try.prog w base (fun _=>true) held fuel 52 cs=some x→∃y:Part,KPart w y cs:=by
 intro fuel
 induction fuel using Nat.strongRecOn with
 | _ fuel ih =>
   intro cs x h
   obtain ⟨xs,n,hf,rfl,hlen,hxl,hfs⟩:=DataW.trod_struct Try.underlying52 h
   rw [c52] at hlen
   match xs,hxl with
   | [y0,y1,y2],_ =>
     have g0:=hfs 0 { name := "Do",type:=9,offset:=0,embedded:=false,tag := "",pkgPath := "",byteOffset:=0 } rfl
     have g1:=hfs 1 { name := "Text",type:=9,offset:=1,embedded:=false,tag := "",pkgPath := "",byteOffset:=16 } rfl
     have g2:=hfs 2 { name := "Kids",type:=50,offset:=2,embedded:=false,tag := "",pkgPath := "",byteOffset:=32 } rfl
     simp only [c9,c50] at g0 g1 g2
     obtain ⟨s0,e0,_,_⟩:=DataW.trod_string Try.underlying9 g0
     obtain ⟨s1,e1,_,_⟩:=DataW.trod_string Try.underlying9 g1
     obtain ⟨A,c,ys,css,e2,hok,hmx,hcell⟩:=open_ro (KPart w) Try.underlying50 c52 (by decide) (fun m hm cs x hx=>ih m (by omega) cs x hx) g2
     have:=three hlen e0 e1 e2
     subst this
     refine ⟨⟨s0,s1,ys⟩,A,c,rfl,hok,fun hp => ?_⟩
     cases A with
     | none =>
       obtain ⟨h1,rfl⟩:=hok.nil rfl
       have h1:ys=[]:=List.length_eq_zero_iff.1 h1
       subst h1
       exact .mk s0 s1 [] none 0 0 0 (fun _=>[]) (Nat.le_refl _) (by simp) (fun e=>absurd rfl e) (fun i p e=>by simp at e) (fun i p e=>by simp at e) rfl
     | some a =>
       refine .mk s0 s1 ys (cleanA (some a) c) c a.block a.off (fun i=>(css i).map cleanV) hok.le hmx (fun hne => ?_) (fun i p hi => ?_) (fun i p hi => ?_) hok.spotless
       ·have hpos:=List.length_pos_iff.2 hne
        have hc:¬c=0:=by have:=hok.le;omega
        have:=hok.at' a rfl (by omega)
        unfold cleanA
        simp only [if_neg hc]
        rw [←addr_eta this.1]
       ·obtain ⟨q1,q2,q3⟩:=hcell a rfl i p hi
        have hil:=(List.getElem?_eq_some_iff.1 hi).1
        have:=hok.at' a rfl (by have:=hok.le;omega)
        refine ro_cells this.2 (fun j u hj => ?_) (q2.cells hp).2
        rw [Nat.add_assoc]
        exact q3 j u hj
       ·obtain ⟨q1,q2,q3⟩:=hcell a rfl i p hi
        exact (q2.cells hp).1
def KRule (w:World) (y:Rule) (cs:List Value):Prop:=∃cs',cs=.string y.name::cs'∧KPart w y.body cs'
set_option maxRecDepth 100000 in
theorem open_rule {H:Type} {enc:TypeId×Value→H} {w:World} {base:Nat} {held:Bool} (fuel:Nat) (cs:List Value) (x:DataW H×List MemPlace)
  (h:DataW.trod enc Try.prog w base (fun _=>true) held fuel 54 cs=some x):∃y:Rule,KRule w y cs:=by
 obtain ⟨xs,n,hf,rfl,hlen,hxl,hfs⟩:=DataW.trod_struct Try.underlying54 h
 rw [c54] at hlen
 match xs,hxl with
 | [y0,y1],_ =>
   have g0:=hfs 0 { name := "Name",type:=9,offset:=0,embedded:=false,tag := "",pkgPath := "",byteOffset:=0 } rfl
   have g1:=hfs 1 { name := "Body",type:=52,offset:=1,embedded:=false,tag := "",pkgPath := "",byteOffset:=16 } rfl
   simp only [c9,c52] at g0 g1
   obtain ⟨s0,e0,_,_⟩:=DataW.trod_string Try.underlying9 g0
   obtain ⟨y,hy⟩:=open_part n _ _ g1
   refine ⟨⟨s0,y⟩,(cs.drop 1).take 3,?_,hy⟩
   match cs,hlen with
   | [a,b,d,e],_=>simp at e0;simp [e0]
set_option maxRecDepth 100000 in
theorem open_grammar {H:Type} {enc:TypeId×Value→H} {w:World} {base:Nat} {held:Bool} (fuel:Nat) (cs:List Value) (x:DataW H×List MemPlace)
  (h:DataW.trod enc Try.prog w base (fun _=>true) held fuel 24 cs=some x):∃(A:Option Addr) (c:Nat) (g:List Rule),cs=[.slice A g.length c]∧OkS w A g.length c∧∃b o css,RoGram (roW w) g (cleanA A c) c b o css:=by
 obtain ⟨xs,n,hf,rfl,hlen,hxl,hfs⟩:=DataW.trod_struct Try.underlying24 h
 rw [c24] at hlen
 match xs,hxl with
 | [y0],_ =>
   have g0:=hfs 0 { name := "Rules",type:=22,offset:=0,embedded:=false,tag := "",pkgPath := "",byteOffset:=0 } rfl
   simp only [c22] at g0
   obtain ⟨A,c,ys,css,e2,hok,hmx,hcell⟩:=open_ro (KRule w) Try.underlying22 c54 (by decide) (fun m hm cs x hx=>open_rule m cs x hx) g0
   refine ⟨A,c,ys,?_,hok,?_⟩
   ·match cs,hlen with
    | [a],_=>simpa using e2
   cases A with
   | none =>
     obtain ⟨h1,rfl⟩:=hok.nil rfl
     have h1:ys=[]:=List.length_eq_zero_iff.1 h1
     subst h1
     exact ⟨0,0,fun _=>[],Nat.le_refl _,by simp,fun e=>absurd rfl e,fun i p e=>by simp at e,fun i p e=>by simp at e,rfl⟩
   | some a =>
     have inr:∀(i:Nat) (p:Rule),ys[i]? = some p→a.spot=none∧a.block<w.heap.size:=by
      intro i p hi
      have hil:=(List.getElem?_eq_some_iff.1 hi).1
      exact hok.at' a rfl (by have:=hok.le;omega)
     refine ⟨a.block,a.off,fun i=>((css i).drop 1).map cleanV,hok.le,hmx,fun hne => ?_,fun i p hi => ?_,fun i p hi => ?_,hok.spotless⟩
     ·have hpos:=List.length_pos_iff.2 hne
      have hc:¬c=0:=by have:=hok.le;omega
      have:=hok.at' a rfl (by omega)
      unfold cleanA
      simp only [if_neg hc]
      rw [←addr_eta this.1]
     ·obtain ⟨q1,⟨cs',q2,q3⟩,q4⟩:=hcell a rfl i p hi
      have hin:=(inr i p hi).2
      have hp:0<w.heap.size:=by omega
      have:=ro_cells (cc:=css i) (b:=a.block) (o:=a.off+i*4) hin (fun j u hj=>by rw [Nat.add_assoc];exact q4 j u hj) (fun u hu=>by
       rw [q2] at hu
       rcases List.mem_cons.1 hu with rfl|hu
       ·exact .string _
       ·exact (q3.cells hp).2 u hu)
      rw [q2] at this ⊢
      exact this
     ·obtain ⟨q1,⟨cs',q2,q3⟩,q4⟩:=hcell a rfl i p hi
      have hp:0<w.heap.size:=by have:=(inr i p hi).2;omega
      rw [q2]
      exact (q3.cells hp).1
set_option maxRecDepth 100000 in
theorem pos_cell {w:World} {base:Nat} {e t:TypeId} {a:Addr} {n c:Nat} (ht:Try.prog.underlying t=some (.slice e)) (h:Cell.okWide Try.prog w .any base t (.slice (some a) n c)):0<w.heap.size:=by
 simp only [Cell.okWide,ht,Cell.ok] at h
 obtain ⟨_,_,_,_,row,cells,hs,_⟩:=h
 unfold World.shape? at hs
 split at hs
 ·rename_i cc el fr hc
  rcases Nat.lt_or_ge a.block w.heap.size with q|q
  ·omega
  ·rw [Array.getElem?_eq_none q] at hc;cases hc
 ·cases hs
set_option maxRecDepth 100000 in
theorem ct24:Try.prog.cellTypes Try.prog.depth 24=some [22]:=by kernel_rfl
set_option maxRecDepth 100000 in
theorem pos_gram {w:World} {base:Nat} {a:Addr} {n c:Nat} (h:Value.okWide Try.prog w .any base 24 (.agg #[.slice (some a) n c])):0<w.heap.size:=by
 simp only [Value.okWide,Try.underlying24] at h
 obtain ⟨cs,e,_,ts,hts,_,hcell⟩:=h
 injection e with e
 subst e
 rw [ct24] at hts
 injection hts with hts
 subst hts
 obtain ⟨u,hu,hk⟩:=hcell 0 (.slice (some a) n c) rfl
 simp at hu
 subst hu
 exact pos_cell Try.underlying22 hk
theorem vr_arg {w:World} {A:Option Addr} {n c:Nat} (k:OkS w A n c) (hp:∀a,A=some a→0<w.heap.size):VR (rho0 w) (.slice (cleanA A c) n c) (.slice A n c):=by
 cases A with
 | none =>
   obtain ⟨rfl,rfl⟩:=k.nil rfl
   exact .slNil
 | some a =>
   rw [←cleanV_slice]
   exact k.vr (hp a rfl)
end Go.Ev.G24
end
section
namespace Go.Proofs.Ytcnllhnhinmokaa.grammarRight
open Go.ChangeShapes Go.WideShapes Go.ChangeAt Go.RowKit Go.Ev Go.Ev.G24
open Go.ChangeMaps (open_string shut_string)
theorem own:ownKnob Try.prog.godebug=none:=by kernel_rfl
theorem laidOut:laidOutB Try.prog=true:=by kernel_rfl
theorem called_sns {f:FuncId} {args args':List Value} {w:World} {b:Bool} (s:Sns Try.prog f args (heap0 w) (fun v _=>v=.bool b)) (hv:VRs (rho0 w) args args'):Calls Try.prog f args'.toArray w fun e w'=>e=.returned (.bool b)∧Below w.heap.size w w':=by
 refine (s.2 (rho0 w) ⟨w.heap.size,fun _=>False⟩ w args' (start0 Try.prog w) hv).mono ?_
 rintro e w1 ⟨v,h1,ρ1,v',rfl,rfl,_,_,r3,r4⟩
 cases r3
 exact ⟨rfl,r4⟩
set_option maxRecDepth 100000 in
theorem lifted (os:Os) (started:os.Started) (H:Type) (enc:TypeId×Value→H) :
  ReturnsInHanded {} Try.checked os 9 .any (Rows.grammarRightSpec.pre6 enc Try.prog Try.f9 Rows.grammarRightRow.domain false) (Rows.grammarRightSpec.post enc Try.prog Try.f9 false true false false):=by
 refine returnsInHanded_of_change_sized (C:=Try.checked) own started (by kernel_rfl) Try.func9
  (ChangeSpec.witness6 (enc:=enc) (C:=Try.checked) false ⟨#[],#[.agg #[.slice none 0 0],.string ⟨#[]⟩],[]⟩ 8 (by kernel_rfl) (by kernel_rfl) (by kernel_rfl) (by kernel_rfl)) ?_
 intro W base args ds gs before hval0 hW hcnd hsz0 _
 have hval:∀(j:Nat) t v,Try.f9.params[j]? = some t→args[j]? = some v→Value.okWide Try.prog W .any base t v:=hval0
 have hW':=hW
 obtain ⟨p,q,hA0,hV,rfl,hfz,hnd⟩:=hW
 have hA:DataW.TrodAll enc Try.prog W 0 (fun _=>true) true Try.f9.params.toList args.toList ds p:=hA0
 rw [Try.params9] at hA hval
 obtain ⟨v0,vs0,d0,ds0,p0,q0,hargs,rfl,rfl,h0,r0⟩:=trodAll_cons hA
 obtain ⟨v1,vs1,d1,ds1,p1,q1,rfl,rfl,rfl,h1,r1⟩:=trodAll_cons r0
 obtain ⟨rfl,rfl,rfl⟩:=trodAll_nil r1
 obtain rfl:args=#[v0,v1]:=by cases args;simp_all
 obtain ⟨rfl,rfl⟩:=trodVars_none hV
 obtain ⟨cs,rfl,hcs⟩:=okWide_struct Try.underlying24 (hval 0 24 v0 rfl rfl)
 have k0:=h0
 have k1:=h1
 have lt0:∀x∈p0,x.block<W.heap.size:=by
  obtain ⟨m,hm⟩:=k0
  exact DataW.trod_lt m _ _ _ hm
 have lt1:∀x∈p1,x.block<W.heap.size:=by
  obtain ⟨m,hm⟩:=k1
  exact DataW.trod_lt m _ _ _ hm
 obtain ⟨fuel0,hf0⟩:=h0
 obtain ⟨fuel1,hf1⟩:=h1
 obtain ⟨A0,c0,g,hcells0,ok0,b0,o0,css0,RG⟩:=open_grammar fuel0 _ _ hf0
 obtain ⟨rule,hcells1,_,_⟩:=DataW.trod_string Try.underlying9 hf1
 have hagg:cs=#[.slice A0 g.length c0]:=by
  apply Array.ext'
  simpa [Value.cells] using hcells0
 subst hagg
 have hv1:v1=.string rule:=by
  obtain ⟨s,rfl⟩:=okWide_string Try.underlying9 (hval 1 9 v1 rfl rfl)
  simpa [Value.cells] using hcells1
 subst hv1
 have pos0:∀a,A0=some a→0<W.heap.size:=fun a e=>by
  subst e
  exact pos_gram (hval 0 24 _ rfl rfl)
 have hs:=law9_s RG rule (heap0 W) (heap0_rom W) (Nat.le_refl _)
 clear hA0 hval0 hsz0
 refine (called_sns hs (args':=[.agg #[.slice A0 g.length c0],.string rule]) (.cons (.agg (.cons (vr_arg ok0 pos0) .nil)) (.cons (.string _) .nil))).mono fun e W' ⟨he,bel⟩ => ?_
 subst he
 exact ⟨_,rfl,_,_,_,[],_,[],hW',trodAll_mk1 (shut_bool Try.underlying4 _),(trodAll_cons_mk (Below.trod laidOut (by kernel_rfl) (of_decide_eq_true (by kernel_rfl)) k0 bel lt0) (trodAll_cons_mk (Below.trod laidOut (by kernel_rfl) (of_decide_eq_true (by kernel_rfl)) k1 bel lt1) trodAll_mk0)),rfl,bel.frame _,fun h=>by cases h⟩
theorem over:Rows.grammarRightRow.holds Try.pinned (OpenSpec.ofChange Rows.grammarRightSpec) :=
 OpenClaim.holds_of_wide 9 Try.f9 rfl rfl rfl rfl rfl rfl rfl ⟨rfl,rfl,rfl,rfl,rfl⟩ rfl rfl rfl rfl rfl (by kernel_rfl) Try.func9 (by kernel_rfl)
  (of_decide_eq_true (by kernel_rfl)) (by unfold Func.isWrapper;first|(rw [if_pos (by decide +kernel)];kernel_rfl)|(rw [if_neg (by decide +kernel)];exact ⟨rfl,rfl⟩))
  (fun os started H enc _=>lifted os started H enc)
theorem proved:Rows.GrammarRightSaid:=over
#print axioms proved
end Go.Proofs.Ytcnllhnhinmokaa.grammarRight
namespace Go.Proofs.Ytcnllhnhinmokaa
theorem grammarRight_holds:Rows.GrammarRightSaid:=grammarRight.proved
end Go.Proofs.Ytcnllhnhinmokaa
end
