/- For every grammar, rule and items, the tree of Parse is one of the ways, if there is no not, and its items are the items (no condition on the arguments): part 3 of 5. -/
import Derived.Test.YtcnllhnhinmokaaPA1
set_option linter.unusedVariables false
set_option linter.unusedSimpArgs false
section
namespace Go.Ev.G24
open Go.RowKit Go.Proofs
variable {r:Ro}
mutual
def fits:Part→Prop
 | ⟨d,t,l⟩=>t.size≤4611686018427387904∧fitsL l
def fitsL:List Part→Prop
 | []=>True
 | x::l=>fits x∧fitsL l
end
theorem fitsL_get:∀{l:List Part},fitsL l→∀(i:Nat) (p:Part),l[i]? = some p→fits p
 | x::l,h,0,p,hp=>by simp at hp;subst hp;exact h.1
 | x::l,h,i+1,p,hp=>fitsL_get h.2 i p (by simpa using hp)
def kindOk (nm:List ByteArray) (d t:ByteArray) (n:Nat):Bool :=
 if d.data.toList=[105,115] then decide (n=0)&&atomB t
 else if d.data.toList=[114,117,108,101] then decide (n=0)&&decide (idxOf nm t<nm.length)
 else if t.data.toList≠[] then false
 else if d.data.toList=[97,110,121]∨d.data.toList=[110,111,116,104,105,110,103] then decide (n=0)
 else if d.data.toList=[115,101,113]∨d.data.toList=[111,114] then decide (1≤n)
 else if d.data.toList=[109,97,110,121]∨d.data.toList=[111,112,116]∨d.data.toList=[110,111,116] then decide (n=1)
 else false
mutual
def rightP (nm:List ByteArray):Part→Bool
 | ⟨d,t,l⟩=>rightL nm l&&kindOk nm d t l.length
def rightL (nm:List ByteArray):List Part→Bool
 | []=>true
 | x::l=>rightP nm x&&rightL nm l
end
theorem int_eq0 (n:Nat):decide ((n:Int)=0)=decide (n=0):=by rw [decide_eq_decide];omega
theorem int_eq1 (n:Nat):decide ((n:Int)=1)=decide (n=1):=by rw [decide_eq_decide];omega
theorem int_ge1 (n:Nat):decide (1≤(n:Int))=decide (1≤n):=by rw [decide_eq_decide];omega
def RightC (r:Ro) (m:Nat) (nm:List ByteArray) (p:Part):Prop:=∀(h:Hp) (cs:List Value),h.rom=r→h.base≤h.next→MapAt h m nm→RoPart r p cs→fits p →
 ∃v h1,Snd Try.prog 67 [.agg cs.toArray,.map (some m)] h v h1∧v=.bool (rightP nm p)∧Ext h h1
set_option maxHeartbeats 4000000 in
set_option maxRecDepth 10000 in
theorem right_c {m:Nat} {nm:List ByteArray}:∀(n:Nat) (p:Part),SizeOf.sizeOf p<n→RightC r m nm p:=by
 intro n
 induction n with
 | zero=>exact fun p hp=>absurd hp (Nat.not_lt_zero _)
 | succ n ihn =>
 rintro ⟨d,t,l⟩ hn h cs hrom hb hM hp hft
 have ih:∀(i:Nat) (p:Part),l[i]? = some p→RightC r m nm p:=fun i p hp=>ihn p (by
  have:=List.sizeOf_lt_of_mem (List.mem_of_getElem? hp)
  simp only [Part.mk.sizeOf_spec] at hn
  omega)
 have hnk:∀(i:Nat) (p:Part),l[i]? = some p→fits p:=fitsL_get hft.2
 cases hp with
 | mk _ _ _ Av c b o css hc hlb hA hat hk hs =>
 refine snd_go wf Try.func67 rfl rfl (n:=71) rfl (by kernel_rfl) rfl ?_
 intro a hn hg
 have hr:Try.f67.results.toList=[.tmp 4]:=rfl
 have g0:=hg 0
 have g1:=hg 1
 clear hg
 simp only [List.getElem?_cons_zero,List.getElem?_cons_succ] at g0 g1
 have hP:=own_new hb 52 [.string d,.string t,.slice Av l.length c]
 have hx0:=Ext.new h (CObj.cells ⟨[.string d,.string t,.slice Av l.length c],52,0,0,false⟩)
 have hb1:=Nat.le_succ_of_le (m:=h.next) hb
 have hM0:=hM.ext hx0
 have e:rightP nm ⟨d,t,l⟩=(rightL nm l&&kindOk nm d t l.length):=by rw [rightP]
 simp -dsimp only [go_sem,g0,g1,load_own hP]
 refine loop_go (n:=71) (by kernel_rfl) (fun m' a' h'=>∃i:Nat,i≤l.length∧m'=l.length - i∧Ext (h.newH (CObj.cells ⟨[.string d,.string t,.slice Av l.length c],52,0,0,false⟩)) h'∧rightL nm (l.drop i)=rightL nm l ∧
  a'.get 1=.map (some m)∧a'.get 2=.pointer (some ⟨h.next,0,none⟩)∧a'.get 5=.int .i64 l.length∧a'.get 14=.slice Av l.length c∧a'.get 15=.int .i64 l.length∧a'.get 16=.int .i64 i) ?_ l.length _ _ (by simp -dsimp only [go_sem,hn]) ⟨0,Nat.zero_le _,rfl,Ext.refl _,rfl,by simp -dsimp only [go_sem,g1];rfl⟩
 rintro m' a' h' hn' ⟨i,hi,rfl,hx,hst,e1,e2,e5,e14,e15,e16⟩
 have hrom':h'.rom=r:=hx.rom.trans hrom
 have hb':h'.base≤h'.next:=by rw [hx.base];exact Nat.le_trans hb1 hx.next
 by_cases hlt:i<l.length
 ·have hpi:l[i]? = some l[i]:=List.getElem?_eq_getElem hlt
  have hi1:decide ((i:Int)<(l.length:Int))=true:=decide_eq_true (Int.ofNat_lt.2 hlt)
  obtain ⟨Av1,c1',hcs⟩:=(hk i _ hpi).shape
  have hat':=hat i _ hpi
  have hkid:=hk i _ hpi
  rw [hcs] at hat' hkid
  have hAv:=hA (ne_nil hlt)
  subst hAv
  obtain ⟨vS,vO,vX,vB,vR⟩:=var_ok hb' (e:=52) (c0:=[.string ⟨#[]⟩,.string ⟨#[]⟩,.slice none 0 0]) (c1:=[.string l[i].d,.string l[i].t,.slice Av1 l[i].l.length c1']) rfl rfl (by simp)
  simp -dsimp only [go_sem,e1,e2,e5,e14,e15,e16,hi1,ia50 hlt,loads_ro (n:=3) hrom' hat' rfl,vS,loads_own vO]
  obtain ⟨_,h2,hs,rfl,hx2⟩:=ih i _ hpi _ _ (vR.trans hrom') vB ((hM0.ext hx).ext vX) hkid (hnk i _ hpi)
  refine ⟨_,h2,hs,?_⟩
  rw [List.drop_eq_getElem_cons hlt,rightL] at hst
  have hx3:=hx.trans (vX.trans hx2)
  simp -dsimp only [go_sem]
  refine Wcond_in (fun hm => ?_) (fun hm => ?_)
  ·simp -dsimp only [go_sem,hr]
   refine ⟨?_,hx0.trans hx3⟩
   have hm':rightP nm l[i]=false:=by simpa using hm
   rw [e,←hst,hm']
   rfl
  ·simp -dsimp only [go_sem,e15,e16,wrap64_succ hlt hlb]
   have hm':rightP nm l[i]=true:=by simpa using hm
   rw [hm',Bool.true_and] at hst
   exact ⟨l.length - (i+1),by omega,i+1,hlt,rfl,hx3,hst,e1,e2,e5,e14,rfl⟩
 ·have hi0:decide ((i:Int)<(l.length:Int))=false:=decide_eq_false (by omega)
  rw [List.drop_eq_nil_of_le (by omega),rightL] at hst
  rw [←hst,Bool.true_and] at e
  have hP':=own_ext hx hP
  have hM':=hM0.ext hx
  simp -dsimp only [go_sem,e2,e15,e16,hi0,load_own hP']
  have hx9:=hx0.trans hx
  by_cases c1:d.data.toList=[105,115]
  ·by_cases cn:l.length=0
   ·have kn:decide ((l.length:Int)=0)=true:=by rw [int_eq0];exact decide_eq_true cn
    simp -dsimp only [go_sem,decide_eq_true c1,e2,e5,kn,load_own hP',hr]
    refine ⟨_,_,atom_c t hft.1 _,?_⟩
    exact ⟨by rw [e];simp [kindOk,c1,cn],hx9⟩
   ·have kn:decide ((l.length:Int)=0)=false:=by rw [int_eq0];exact decide_eq_false cn
    simp -dsimp only [go_sem,undef',decide_eq_true c1,e2,e5,kn,load_own hP',hr]
    exact ⟨by rw [e];simp [kindOk,c1,cn],hx9⟩
  by_cases c2:d.data.toList=[114,117,108,101]
  ·by_cases cn:l.length=0
   ·have kn:decide ((l.length:Int)=0)=true:=by rw [int_eq0];exact decide_eq_true cn
    by_cases ci:idxOf nm t<nm.length
    ·simp -dsimp only [go_sem,undef',decide_eq_false c1,decide_eq_true c2,e1,e2,e5,kn,load_own hP',hM'.hit ci,hr]
     exact ⟨by rw [e];simp [kindOk,c2,cn,ci],hx9⟩
    ·simp -dsimp only [go_sem,undef',decide_eq_false c1,decide_eq_true c2,e1,e2,e5,kn,load_own hP',hM'.miss ci,hr]
     exact ⟨by rw [e];simp [kindOk,c2,cn,ci],hx9⟩
   ·have kn:decide ((l.length:Int)=0)=false:=by rw [int_eq0];exact decide_eq_false cn
    by_cases ci:idxOf nm t<nm.length
    ·simp -dsimp only [go_sem,undef',decide_eq_false c1,decide_eq_true c2,e1,e2,e5,kn,load_own hP',hM'.hit ci,hr]
     exact ⟨by rw [e];simp [kindOk,c2,cn,ci],hx9⟩
    ·simp -dsimp only [go_sem,undef',decide_eq_false c1,decide_eq_true c2,e1,e2,e5,kn,load_own hP',hM'.miss ci,hr]
     exact ⟨by rw [e];simp [kindOk,c2,cn,ci],hx9⟩
  by_cases c3:t.data.toList=[]
  rotate_left
  ·simp -dsimp only [go_sem,decide_eq_false c1,decide_eq_false c2,decide_eq_false c3,e2,e5,load_own hP',hr]
   exact ⟨by rw [e];simp [kindOk,c1,c2,c3],hx9⟩
  by_cases c4:d.data.toList=[97,110,121]
  ·simp -dsimp only [go_sem,decide_eq_false c1,decide_eq_false c2,decide_eq_true c3,decide_eq_true c4,e2,e5,load_own hP',int_eq0,hr]
   exact ⟨by rw [e];simp [kindOk,c3,c4],hx9⟩
  by_cases c5:d.data.toList=[110,111,116,104,105,110,103]
  ·simp -dsimp only [go_sem,decide_eq_false c1,decide_eq_false c2,decide_eq_true c3,decide_eq_false c4,decide_eq_true c5,e2,e5,load_own hP',int_eq0,hr]
   exact ⟨by rw [e];simp [kindOk,c3,c5],hx9⟩
  by_cases c6:d.data.toList=[115,101,113]
  ·simp -dsimp only [go_sem,decide_eq_false c1,decide_eq_false c2,decide_eq_true c3,decide_eq_false c4,decide_eq_false c5,decide_eq_true c6,e2,e5,load_own hP',int_ge1,hr]
   exact ⟨by rw [e];simp [kindOk,c3,c6],hx9⟩
  by_cases c7:d.data.toList=[111,114]
  ·simp -dsimp only [go_sem,decide_eq_false c1,decide_eq_false c2,decide_eq_true c3,decide_eq_false c4,decide_eq_false c5,decide_eq_false c6,decide_eq_true c7,e2,e5,load_own hP',int_ge1,hr]
   exact ⟨by rw [e];simp [kindOk,c3,c7],hx9⟩
  by_cases c8:d.data.toList=[109,97,110,121]
  ·simp -dsimp only [go_sem,decide_eq_false c1,decide_eq_false c2,decide_eq_true c3,decide_eq_false c4,decide_eq_false c5,decide_eq_false c6,decide_eq_false c7,decide_eq_true c8,e2,e5,load_own hP',int_eq1,hr]
   exact ⟨by rw [e];simp [kindOk,c3,c8],hx9⟩
  by_cases c9:d.data.toList=[111,112,116]
  ·simp -dsimp only [go_sem,decide_eq_false c1,decide_eq_false c2,decide_eq_true c3,decide_eq_false c4,decide_eq_false c5,decide_eq_false c6,decide_eq_false c7,decide_eq_false c8,decide_eq_true c9,e2,e5,load_own hP',int_eq1,hr]
   exact ⟨by rw [e];simp [kindOk,c3,c9],hx9⟩
  by_cases c10:d.data.toList=[110,111,116]
  ·simp -dsimp only [go_sem,decide_eq_false c1,decide_eq_false c2,decide_eq_true c3,decide_eq_false c4,decide_eq_false c5,decide_eq_false c6,decide_eq_false c7,decide_eq_false c8,decide_eq_false c9,decide_eq_true c10,e2,e5,load_own hP',int_eq1,hr]
   exact ⟨by rw [e];simp [kindOk,c3,c10],hx9⟩
  simp -dsimp only [go_sem,decide_eq_false c1,decide_eq_false c2,decide_eq_true c3,decide_eq_false c4,decide_eq_false c5,decide_eq_false c6,decide_eq_false c7,decide_eq_false c8,decide_eq_false c9,decide_eq_false c10,e2,e5,load_own hP',hr]
  exact ⟨by rw [e];simp [kindOk,c1,c2,c3,c4,c5,c6,c7,c8,c9,c10],hx9⟩
end Go.Ev.G24
end
section
namespace Go.Ev.G24
open Go.RowKit Go.Proofs
variable {r:Ro}
def rightRs (nm:List ByteArray):List Rule→Bool
 | []=>true
 | x::l=>(plainB x.name&&rightP nm x.body)&&rightRs nm l
def rightG (l:List Rule):Bool:=fresh [] (nms l) && !decide (l.length=0)&&rightRs (nms l) l
def fitsG (l:List Rule):Prop:=∀(i:Nat) (x:Rule),l[i]? = some x→x.name.size≤4611686018427387904∧fits x.body
set_option maxHeartbeats 4000000 in
set_option maxRecDepth 10000 in
theorem Right_c {l:List Rule} {Av:Option Addr} {c b o:Nat} {css:Nat→List Value} (R:RoRules r l Av c b o css) (hft:fitsG l) (h:Hp) (hrom:h.rom=r) (hb:h.base≤h.next) :
  ∃v h1,Snd Try.prog 34 [.agg #[.slice Av l.length c]] h v h1∧v=.bool (rightG l)∧Ext h h1:=by
 refine snd_go wf Try.func34 rfl rfl (n:=39) rfl (by kernel_rfl) rfl ?_
 intro a hn hg
 have hr:Try.f34.results.toList=[.tmp 2]:=rfl
 have g0:=hg 0
 clear hg
 simp only [List.getElem?_cons_zero,List.getElem?_cons_succ] at g0
 have hP:=own_new hb 24 [.slice Av l.length c]
 have hx0:=Ext.new h (CObj.cells ⟨[.slice Av l.length c],24,0,0,false⟩)
 have hb1:=Nat.le_succ_of_le (m:=h.next) hb
 simp -dsimp only [go_sem,g0,loads_own hP]
 generalize h.newH (CObj.cells ⟨[.slice Av l.length c],24,0,0,false⟩)=h0 at hP hx0 ⊢
 obtain ⟨_,h2,hs2,hx2,hv2⟩:=rules_c R h0 (hx0.rom.trans hrom) (by rw [hx0.base];exact Nat.le_trans hb hx0.next)
 refine ⟨_,h2,hs2,?_⟩
 have hP2:=own_ext hx2 hP
 by_cases cf:fresh [] (nms l)=true
 rotate_left
 ·rw [if_neg cf] at hv2
  subst hv2
  simp -dsimp only [go_sem,undef',hr]
  exact ⟨by simp [rightG,cf],hx0.trans hx2⟩
 rw [if_pos cf] at hv2
 obtain ⟨m,rfl,hm1,hM⟩:=hv2
 by_cases cn:l.length=0
 ·have kn:decide ((l.length:Int)=0)=true:=by rw [int_eq0];exact decide_eq_true cn
  simp -dsimp only [go_sem,load_own hP2,kn,hr]
  exact ⟨by simp [rightG,cn],hx0.trans hx2⟩
 have kn:decide ((l.length:Int)=0)=false:=by rw [int_eq0];exact decide_eq_false cn
 have e:rightG l=rightRs (nms l) l:=by simp [rightG,cf,cn]
 simp -dsimp only [go_sem,load_own hP2,kn,hr]
 have hx02:=hx0.trans hx2
 refine loop_go (n:=39) (by kernel_rfl) (fun m' a' h'=>∃i:Nat,i≤l.length∧m'=l.length - i∧Ext h2 h'∧rightRs (nms l) (l.drop i)=rightRs (nms l) l ∧
  a'.get 3=.map (some m)∧a'.get 21=.slice Av l.length c∧a'.get 22=.int .i64 l.length∧a'.get 23=.int .i64 i) ?_ l.length _ _ (by simp -dsimp only [go_sem,hn]) ⟨0,Nat.zero_le _,rfl,Ext.refl _,rfl,by simp -dsimp only [go_sem];rfl⟩
 rintro m' a' h' hn' ⟨i,hi,rfl,hx,hst,e3,e21,e22,e23⟩
 have hrom':h'.rom=r:=(hx02.trans hx).rom.trans hrom
 have hb':h'.base≤h'.next:=by rw [(hx02.trans hx).base];exact Nat.le_trans hb (hx02.trans hx).next
 by_cases hlt:i<l.length
 ·have hpi:l[i]? = some l[i]:=List.getElem?_eq_getElem hlt
  have hi1:decide ((i:Int)<(l.length:Int))=true:=decide_eq_true (Int.ofNat_lt.2 hlt)
  obtain ⟨Av1,c1',hcs⟩:=(R.hk i _ hpi).shape
  have hat':=R.hat i _ hpi
  have hkid:=R.hk i _ hpi
  rw [hcs] at hat' hkid
  have hAv:=R.hA (ne_nil hlt)
  subst hAv
  obtain ⟨vS,vO,vX,vB,vR⟩:=var_ok hb' (e:=54) (c0:=[.string ⟨#[]⟩,.string ⟨#[]⟩,.string ⟨#[]⟩,.slice none 0 0]) (c1:=[.string l[i].name,.string l[i].body.d,.string l[i].body.t,.slice Av1 l[i].body.l.length c1']) rfl rfl (by simp)
  rw [List.drop_eq_getElem_cons hlt,rightRs] at hst
  simp -dsimp only [go_sem,e3,e21,e22,e23,hi1,ia22 hlt,loads_ro (n:=4) hrom' hat' rfl,vS,load_own vO]
  refine ⟨_,_,plain_c l[i].name (hft i _ hpi).1 _,?_⟩
  cases hpl:plainB l[i].name with
  | false =>
    rw [hpl] at hst
    simp -dsimp only [go_sem,undef',hr]
    exact ⟨by rw [e,←hst];rfl,(hx02.trans hx).trans vX⟩
  | true =>
    rw [hpl,Bool.true_and] at hst
    simp -dsimp only [go_sem,e3,e22,e23,loads_own vO]
    obtain ⟨_,h4,hs4,rfl,hx4⟩:=right_c _ l[i].body (Nat.lt_succ_self _) _ _ (vR.trans hrom') vB ((hM.ext hx).ext vX) hkid (hft i _ hpi).2
    refine ⟨_,h4,hs4,?_⟩
    have hx5:=hx.trans (vX.trans hx4)
    cases hrp:rightP (nms l) l[i].body with
    | false =>
      rw [hrp] at hst
      simp -dsimp only [go_sem,hr]
      exact ⟨by rw [e,←hst];rfl,hx02.trans hx5⟩
    | true =>
      rw [hrp,Bool.true_and] at hst
      simp -dsimp only [go_sem,e22,e23,wrap64_succ hlt (Nat.le_trans R.hb (by decide))]
      exact ⟨l.length - (i+1),by omega,i+1,hlt,rfl,hx5,hst,e3,e21,rfl⟩
 ·have hi0:decide ((i:Int)<(l.length:Int))=false:=decide_eq_false (by omega)
  rw [List.drop_eq_nil_of_le (by omega),rightRs] at hst
  simp -dsimp only [go_sem,e22,e23,hi0,hr]
  exact ⟨by rw [e,←hst],hx02.trans hx⟩
end Go.Ev.G24
end
section
namespace Go.Ev.G24
open Go.RowKit Go.Proofs
variable {r:Ro}
theorem kind_rule {nm:List ByteArray} {d t:ByteArray} {n:Nat} (h:kindOk nm d t n=true) (hd:d.data.toList=[114,117,108,101]):idxOf nm t<nm.length:=by
 unfold kindOk at h
 rw [if_neg (by rw [hd];decide),if_pos hd,Bool.and_eq_true] at h
 exact of_decide_eq_true h.2
theorem kind_one {nm:List ByteArray} {d t:ByteArray} {n:Nat} (h:kindOk nm d t n=true) (hd:oneKid d):n=1:=by
 unfold kindOk at h
 have k1:d.data.toList≠[105,115]:=by rcases hd with hd|hd|hd<;>rw [hd]<;>decide
 have k2:d.data.toList≠[114,117,108,101]:=by rcases hd with hd|hd|hd<;>rw [hd]<;>decide
 have k3:¬(d.data.toList=[97,110,121]∨d.data.toList=[110,111,116,104,105,110,103]):=by rcases hd with hd|hd|hd<;>rw [hd]<;>decide
 have k4:¬(d.data.toList=[115,101,113]∨d.data.toList=[111,114]):=by rcases hd with hd|hd|hd<;>rw [hd]<;>decide
 rw [if_neg k1,if_neg k2] at h
 split at h
 ·cases h
 ·rw [if_pos (show _∨_∨_ from hd)] at h
  exact of_decide_eq_true h
mutual
theorem right_named {nm:List ByteArray}:∀(p:Part),rightP nm p=true→named nm p
 | ⟨d,t,l⟩,h=>by
   rw [rightP,Bool.and_eq_true] at h
   rw [named]
   exact ⟨kind_rule h.2,kind_one h.2,rightL_named l h.1⟩
theorem rightL_named {nm:List ByteArray}:∀(l:List Part),rightL nm l=true→namedL nm l
 | [],_=>by rw [namedL];trivial
 | x::l,h=>by
   rw [rightL,Bool.and_eq_true] at h
   rw [namedL]
   exact ⟨right_named x h.1,rightL_named l h.2⟩
end
theorem rightRs_get {nm:List ByteArray}:∀{l:List Rule},rightRs nm l=true→∀(i:Nat) (x:Rule),l[i]? = some x→rightP nm x.body=true
 | y::l,h,i,x,hx=>by
   rw [rightRs,Bool.and_eq_true,Bool.and_eq_true] at h
   cases i with
   | zero=>simp at hx;subst hx;exact h.1.2
   | succ i=>exact rightRs_get h.2 i x (by simpa using hx)
theorem rightG_named {l:List Rule} (h:rightG l=true):fresh [] (nms l)=true∧∀(i:Nat) (x:Rule),l[i]? = some x→named (nms l) x.body:=by
 rw [rightG,Bool.and_eq_true,Bool.and_eq_true] at h
 exact ⟨h.1.1,fun i x hx=>right_named _ (rightRs_get h.2 i x hx)⟩
def fineB (l:List Rule) (em:List Bool):Bool := !(recB l em).any (true == ·)
set_option maxHeartbeats 4000000 in
set_option maxRecDepth 10000 in
theorem usable_c {l:List Rule} {Av:Option Addr} {c b o:Nat} {css:Nat→List Value} (R:RoRules r l Av c b o css) (hft:fitsG l) (h:Hp) (hrom:h.rom=r) (hb:h.base≤h.next) :
  ∃v h1,Snd Try.prog 61 [.agg #[.slice Av l.length c]] h v h1∧Ext h h1∧(if rightG l=true then ∃bk m eb em,v=.tuple #[.pointer (some ⟨bk,0,none⟩),.bool (fineB l em)]∧h.next≤bk∧h.next≤m∧h.next≤eb∧Book h1 bk m eb (.slice Av l.length c) (nms l) em∧Found l em
   else v=.tuple #[.pointer none,.bool false]):=by
 refine snd_go wf Try.func61 rfl rfl (n:=15) rfl (by kernel_rfl) rfl ?_
 intro a hn hg
 have hr:Try.f61.results.toList=[.tmp 2,.tmp 3]:=rfl
 have g0:=hg 0
 clear hg
 simp only [List.getElem?_cons_zero,List.getElem?_cons_succ] at g0
 have hP:=own_new hb 24 [.slice Av l.length c]
 have hx0:=Ext.new h (CObj.cells ⟨[.slice Av l.length c],24,0,0,false⟩)
 simp -dsimp only [go_sem,g0,loads_own hP]
 generalize h.newH (CObj.cells ⟨[.slice Av l.length c],24,0,0,false⟩)=h0 at hP hx0 ⊢
 have hb0:h0.base≤h0.next:=by rw [hx0.base];exact Nat.le_trans hb hx0.next
 obtain ⟨_,h2,hs2,rfl,hx2⟩:=Right_c R hft h0 (hx0.rom.trans hrom) hb0
 refine ⟨_,h2,hs2,?_⟩
 have hP2:=own_ext hx2 hP
 have hx02:=hx0.trans hx2
 have hb2:h2.base≤h2.next:=by rw [hx02.base];exact Nat.le_trans hb hx02.next
 cases hrg:rightG l with
 | false =>
   simp -dsimp only [go_sem,hr]
   exact hx02
 | true =>
   obtain ⟨hfr,hnm⟩:=rightG_named hrg
   simp -dsimp only [go_sem,loads_own hP2]
   obtain ⟨_,h4,hs4,hx4,bk,m,eb,em,rfl,l1,l2,l3,hB,hF⟩:=open_c R hfr hnm h2 (hx02.rom.trans hrom) hb2
   refine ⟨_,h4,hs4,?_⟩
   have hx04:=hx02.trans hx4
   have hb4:h4.base≤h4.next:=by rw [hx04.base];exact Nat.le_trans hb hx04.next
   try simp -dsimp only [go_sem]
   obtain ⟨_,h5,hs5,hx5,ob,rfl,l4,hO⟩:=recursive_c R hnm h4 (hx04.rom.trans hrom) hb4 hB
   refine ⟨_,h5,hs5,?_⟩
   have hx05:=hx04.trans hx5
   have hb5:h5.base≤h5.next:=by rw [hx05.base];exact Nat.le_trans hb hx05.next
   try simp -dsimp only [go_sem]
   obtain ⟨_,h6,hs6,rfl,hx6⟩:=contains_c h5 hb5 hO (by rw [recB_len];exact R.hb) true
   rw [recB_len] at hs6
   refine ⟨_,h6,hs6,?_⟩
   simp -dsimp only [go_sem,hr]
   exact ⟨hx05.trans hx6,bk,m,eb,em,rfl,Nat.le_trans hx02.next l1,Nat.le_trans hx02.next l2,Nat.le_trans hx02.next l3,(hB.ext hx5).ext hx6,hF⟩
def withB (l:List Rule) (em:List Bool) (s:ByteArray):Bool:=fineB l em&&decide (idxOf (nms l) s<l.length)
def WithP (l:List Rule) (Av:Option Addr) (c:Nat) (s:ByteArray) (h:Hp) (v:Value) (h1:Hp):Prop:=Ext h h1 ∧
 ((v=.tuple #[.pointer none,.agg #[.string ⟨#[]⟩,.string ⟨#[]⟩,.slice none 0 0],.bool false]∧(rightG l=true→∃em,Found l em∧withB l em s=false)) ∨
   (rightG l=true∧∃bk m eb em,v=.tuple #[.pointer (some ⟨bk,0,none⟩),.agg #[.string ⟨#[114,117,108,101]⟩,.string s,.slice none 0 0],.bool true]∧h.next≤bk∧h.next≤m∧h.next≤eb∧Book h1 bk m eb (.slice Av l.length c) (nms l) em∧Found l em∧withB l em s=true))
set_option maxHeartbeats 4000000 in
set_option maxRecDepth 10000 in
theorem with_c {l:List Rule} {Av:Option Addr} {c b o:Nat} {css:Nat→List Value} (R:RoRules r l Av c b o css) (hft:fitsG l) (s:ByteArray) (h:Hp) (hrom:h.rom=r) (hb:h.base≤h.next) :
  ∃v h1,Snd Try.prog 45 [.agg #[.slice Av l.length c],.string s] h v h1∧WithP l Av c s h v h1:=by
 refine snd_go wf Try.func45 rfl rfl (n:=32) rfl (by kernel_rfl) rfl ?_
 intro a hn hg
 have hr:Try.f45.results.toList=[.tmp 4,.cell 5 52,.tmp 6]:=rfl
 have g0:=hg 0
 have g1:=hg 1
 clear hg
 simp only [List.getElem?_cons_zero,List.getElem?_cons_succ] at g0 g1
 have hnl:(nms l).length=l.length:=by simp [nms]
 have hP:=own_new hb 24 [.slice Av l.length c]
 have hx0:=Ext.new h (CObj.cells ⟨[.slice Av l.length c],24,0,0,false⟩)
 have hb0:=Nat.le_succ_of_le (m:=h.next) hb
 simp -dsimp only [go_sem,g0,g1,loads_own hP,next_newH]
 have hZ:=own_new (h:=h.newH (CObj.cells ⟨[.slice Av l.length c],24,0,0,false⟩)) hb0 52 [.string ⟨#[]⟩,.string ⟨#[]⟩,.slice none 0 0]
 have hP1:=own_newH hP (CObj.cells ⟨[.string ⟨#[]⟩,.string ⟨#[]⟩,.slice none 0 0],52,0,0,false⟩)
 have hx1:=hx0.trans (Ext.new _ (CObj.cells ⟨[.string ⟨#[]⟩,.string ⟨#[]⟩,.slice none 0 0],52,0,0,false⟩))
 simp -dsimp only [go_sem,loads_own hP1]
 simp only [next_newH] at hZ
 generalize (h.newH (CObj.cells ⟨[.slice Av l.length c],24,0,0,false⟩)).newH (CObj.cells ⟨[.string ⟨#[]⟩,.string ⟨#[]⟩,.slice none 0 0],52,0,0,false⟩)=h0 at hP1 hZ hx1 ⊢
 obtain ⟨_,h2,hs2,hx2,hv2⟩:=usable_c R hft h0 (hx1.rom.trans hrom) (by rw [hx1.base];exact Nat.le_trans hb hx1.next)
 refine ⟨_,h2,hs2,?_⟩
 have hx02:=hx1.trans hx2
 have hZ2:=own_ext hx2 hZ
 have hs0:=stores_own hZ2 (o:=0) (vs:=[.string ⟨#[]⟩,.string ⟨#[]⟩,.slice none 0 0]) (c1:=[.string ⟨#[]⟩,.string ⟨#[]⟩,.slice none 0 0]) rfl rfl (by simp)
 have hs1:=stores_own hZ2 (o:=0) (vs:=[.string ⟨#[114,117,108,101]⟩,.string s,.slice none 0 0]) (c1:=[.string ⟨#[114,117,108,101]⟩,.string s,.slice none 0 0]) rfl rfl (by simp)
 have hZ0:=own_put_same hZ2 [.string ⟨#[]⟩,.string ⟨#[]⟩,.slice none 0 0]
 have hZ1:=own_put_same hZ2 [.string ⟨#[114,117,108,101]⟩,.string s,.slice none 0 0]
 have hxe:=fun o:CObj=>hx02.put (b:=h.next+1) (Nat.le_succ _) o
 cases hrg:rightG l with
 | false =>
   rw [if_neg (by rw [hrg];simp)] at hv2
   subst hv2
   simp -dsimp only [go_sem,hs0,hr,loads_own hZ0]
   exact ⟨hxe _,.inl ⟨rfl,fun e=>by rw [hrg] at e;cases e⟩⟩
 | true =>
   rw [if_pos hrg] at hv2
   obtain ⟨bk,m,eb,em,rfl,l1,l2,l3,hB,hF⟩:=hv2
   cases hfi:fineB l em with
   | false =>
     simp -dsimp only [go_sem,hs0,hr,loads_own hZ0]
     exact ⟨hxe _,.inl ⟨rfl,fun _=>⟨em,hF,by simp [withB,hfi]⟩⟩⟩
   | true =>
     have hM:MapAt h2 m (nms l):=hB.map
     by_cases ci:idxOf (nms l) s<(nms l).length
     ·simp -dsimp only [go_sem,g1,load_own hB.own,hM.hit ci,hs1,hr,loads_own hZ1]
      have hne:bk≠h.next+1:=by have:=hx1.next;have:=hZ.2.1;omega
      refine ⟨hxe _,.inr ⟨hrg,bk,m,eb,em,rfl,by have:=hx1.next;omega,by have:=hx1.next;omega,by have:=hx1.next;omega,?_,hF,?_⟩⟩
      ·refine hB.extS (S:=Only (h.next+1)) (((Ext.refl h2).toS (S:=Only (h.next+1))).put (b:=h.next+1) (.inr rfl) _) hne ?_ ?_
       ·have:=hZ.2.1;show ¬m=h.next+1;omega
       ·have:=hZ.2.1;show ¬eb=h.next+1;omega
      ·rw [hnl] at ci
       simp [withB,hfi,ci]
     ·simp -dsimp only [go_sem,g1,load_own hB.own,hM.miss ci,hs0,hr,loads_own hZ0]
      rw [hnl] at ci
      exact ⟨hxe _,.inl ⟨rfl,fun _=>⟨em,hF,by simp [withB,ci]⟩⟩⟩
end Go.Ev.G24
end
section
namespace Go.Ev.G24
open Go.RowKit Go.Proofs
variable {r:Ro} {h:Hp}
structure RoItems (r:Ro) (items:List ByteArray) (Iv:Option Addr) (c b o:Nat):Prop where
 hc:items.length≤c
 hb:items.length≤1000
 hA:items≠[]→Iv=some ⟨b,o,none⟩
 hat:∀(i:Nat) (s:ByteArray),items[i]? = some s→roAt r b (o+i) [.string s]
 hs:spotless Iv=true
inductive TestAt (h:Hp):Value→Option ByteArray→Prop
 | any:TestAt h (.func (.func 99) #[] #[]) none
 | is (pb:Nat) (d t:ByteArray) (k:Value) (hp:h.own pb 52 [.string d,.string t,k]):TestAt h (.func (.func 98) #[] #[.pointer (some ⟨pb,0,none⟩)]) (some t)
def testB (q:Option ByteArray) (s:ByteArray):Bool:=match q with
 | none=>true
 | some t=>decide (s.data.toList=t.data.toList)
set_option maxRecDepth 10000 in
theorem any_c (s:ByteArray) (h:Hp):∃v h1,Snd Try.prog 99 [.string s] h v h1∧v=.bool true∧h1=h:=by
 refine snd_go wf Try.func99 rfl rfl (n:=3) rfl (by kernel_rfl) rfl ?_
 intro a hn hg
 have hr:Try.f99.results.toList=[.tmp 2]:=rfl
 simp -dsimp only [go_sem,hr]
set_option maxRecDepth 10000 in
theorem is_c (s:ByteArray) (h:Hp) {pb:Nat} {d t:ByteArray} {k:Value} (hp:h.own pb 52 [.string d,.string t,k]):∃v h1,Snd Try.prog 98 [.string s,.pointer (some ⟨pb,0,none⟩)] h v h1∧v=.bool (decide (s.data.toList=t.data.toList))∧h1=h:=by
 refine snd_go wf Try.func98 rfl rfl (n:=8) rfl (by kernel_rfl) rfl ?_
 intro a hn hg
 have hr:Try.f98.results.toList=[.tmp 3]:=rfl
 have g0:=hg 0
 have g1:=hg 1
 clear hg
 simp only [List.getElem?_cons_zero,List.getElem?_cons_succ] at g0 g1
 simp -dsimp only [go_sem,g0,g1,load_own hp,hr]
theorem max_int (a b:Nat):minmax' true (.int .i64 (a:Int)) [.int .i64 (b:Int)]=some (.int .i64 ((max a b:Nat):Int)):=by
 simp only [minmax',mm,intLt_lt]
 by_cases hlt:a<b
 ·have k:decide ((a:Int)<(b:Int))=true:=decide_eq_true (by omega)
  rw [k,Nat.max_eq_right (Nat.le_of_lt hlt)]
 ·have k:decide ((a:Int)<(b:Int))=false:=decide_eq_false (by omega)
  rw [k,Nat.max_eq_left (by omega)]
def runRow (bk:Nat) (Iv:Option Addr) (n c mm:Nat) (far:Nat):List Value:=[.pointer (some ⟨bk,0,none⟩),.slice Iv n c,.map (some mm),.int .i64 (far:Int)]
def oneB (items:List ByteArray) (q:Option ByteArray) (p:Nat):Bool:=match items[p]? with
 | some s=>testB q s
 | none=>false
def OneP (items:List ByteArray) (q:Option ByteArray) (p:Nat) (bk:Nat) (Iv:Option Addr) (c mm far xb:Nat) (h:Hp) (v:Value) (h1:Hp):Prop :=
 ExtS (Only xb) h h1∧h1.own xb 128 (runRow bk Iv items.length c mm (max far p)) ∧
  (if oneB items q p=true then ∃s nb,items[p]? = some s∧v=.agg #[.bool true,.int .i64 ((p+1:Nat):Int),.slice (some ⟨nb,0,none⟩) 1 1]∧h.next≤nb∧h1.own nb 31 [.string ⟨#[105,116,101,109]⟩,.string s,.slice none 0 0]
   else v=.agg #[.bool false,.int .i64 0,.slice none 0 0])
set_option maxHeartbeats 4000000 in
set_option maxRecDepth 10000 in
theorem one_c {items:List ByteArray} {Iv:Option Addr} {c b o:Nat} (R:RoItems r items Iv c b o) (h:Hp) (hrom:h.rom=r) (hb:h.base≤h.next) {xb bk mm far:Nat} (hX:h.own xb 128 (runRow bk Iv items.length c mm far)) (p:Nat) (hpl:p≤items.length) (hfar:far≤1000)
  {f:Value} {q:Option ByteArray} (hT:TestAt h f q) :
  ∃v h1,Snd Try.prog 97 [.pointer (some ⟨xb,0,none⟩),.int .i64 (p:Int),f] h v h1∧OneP items q p bk Iv c mm far xb h v h1:=by
 refine snd_go wf Try.func97 rfl rfl (n:=48) rfl (by kernel_rfl) rfl ?_
 intro a hn hg
 have hr:Try.f97.results.toList=[.cell 6 75]:=rfl
 have g0:=hg 0
 have g1:=hg 1
 have g2:=hg 2
 clear hg
 simp only [List.getElem?_cons_zero,List.getElem?_cons_succ] at g0 g1 g2
 unfold runRow at hX
 have hZ:=own_new hb 75 [.bool false,.int .i64 0,.slice none 0 0]
 have hX1:=own_newH hX (CObj.cells ⟨[.bool false,.int .i64 0,.slice none 0 0],75,0,0,false⟩)
 have hx1:=Ext.new h (CObj.cells ⟨[.bool false,.int .i64 0,.slice none 0 0],75,0,0,false⟩)
 have hne:xb≠h.next:=Nat.ne_of_lt hX.2.1
 have hs1:=stores_own hX1 (o:=3) (vs:=[.int .i64 ((max far p:Nat):Int)]) (c1:=[.pointer (some ⟨bk,0,none⟩),.slice Iv items.length c,.map (some mm),.int .i64 ((max far p:Nat):Int)]) rfl rfl (by simp)
 have hX2:=own_put_same hX1 [.pointer (some ⟨bk,0,none⟩),.slice Iv items.length c,.map (some mm),.int .i64 ((max far p:Nat):Int)]
 have hZ2:=own_put hZ hne.symm (.cells ⟨[.pointer (some ⟨bk,0,none⟩),.slice Iv items.length c,.map (some mm),.int .i64 ((max far p:Nat):Int)],128,0,0,false⟩)
 have hx2:ExtS (Only xb) h _:=(hx1.toS (S:=Only xb)).put (b:=xb) (.inr rfl) (.cells ⟨[.pointer (some ⟨bk,0,none⟩),.slice Iv items.length c,.map (some mm),.int .i64 ((max far p:Nat):Int)],128,0,0,false⟩)
 have hTT:∀{pb:Nat} {cs:List Value},h.own pb 52 cs→((h.newH (CObj.cells ⟨[.bool false,.int .i64 0,.slice none 0 0],75,0,0,false⟩)).put xb (.cells ⟨[.pointer (some ⟨bk,0,none⟩),.slice Iv items.length c,.map (some mm),.int .i64 ((max far p:Nat):Int)],128,0,0,false⟩)).own pb 52 cs:=by
  intro pb cs ho
  refine own_put (own_newH ho _) ?_ _
  intro e
  have:=hX.2.2
  rw [←e,ho.2.2] at this
  simp at this
 simp -dsimp only [go_sem,g0,g1,g2,load_own hX1,max_int,hs1]
 generalize ((h.newH (CObj.cells ⟨[.bool false,.int .i64 0,.slice none 0 0],75,0,0,false⟩)).put xb (.cells ⟨[.pointer (some ⟨bk,0,none⟩),.slice Iv items.length c,.map (some mm),.int .i64 ((max far p:Nat):Int)],128,0,0,false⟩))=h2 at hX2 hZ2 hx2 hTT ⊢
 have hs0:=stores_own hZ2 (o:=0) (vs:=[.bool false,.int .i64 0,.slice none 0 0]) (c1:=[.bool false,.int .i64 0,.slice none 0 0]) rfl rfl (by simp)
 have hZ3:=own_put_same hZ2 [.bool false,.int .i64 0,.slice none 0 0]
 have hX3:=own_put hX2 hne (.cells ⟨[.bool false,.int .i64 0,.slice none 0 0],75,0,0,false⟩)
 have hx3:=hx2.put (b:=h.next) (.inl (Nat.le_refl _)) (.cells ⟨[.bool false,.int .i64 0,.slice none 0 0],75,0,0,false⟩)
 by_cases hlt:p<items.length
 rotate_left
 ·have k0:decide ((items.length:Int)≤(p:Int))=true:=decide_eq_true (by omega)
  simp -dsimp only [go_sem,undef',g0,g1,load_own hX2,k0,hs0,hr,loads_own hZ3]
  refine ⟨hx3,hX3,?_⟩
  have:oneB items q p=false:=by unfold oneB;rw [List.getElem?_eq_none (by omega)]
  rw [if_neg (by rw [this];simp)]
 have k0:decide ((items.length:Int)≤(p:Int))=false:=decide_eq_false (by omega)
 have hps:items[p]? = some items[p]:=List.getElem?_eq_getElem hlt
 have hIv:=R.hA (ne_nil hlt)
 subst hIv
 have hone:oneB items q p=testB q items[p]:=by unfold oneB;rw [hps]
 have hld:∀{h3:Hp},h3.rom=r→h3.load ⟨b,o+p,none⟩=some (.string items[p]):=by
  intro h3 h3r
  have:=load_ro h3r (R.hat p _ hps) (j:=0) (v:=.string items[p]) rfl
  simpa using this
 have hld2:=hld (hx2.rom.trans hrom)
 have hb2:h2.base≤h2.next:=ext_bn hx2 hb
 have hrow:=own_new hb2 31 [.string ⟨#[105,116,101,109]⟩,.string items[p],.slice none 0 0]
 have hZ4:=own_newH hZ2 (CObj.cells ⟨[.string ⟨#[105,116,101,109]⟩,.string items[p],.slice none 0 0],31,0,0,false⟩)
 have hX4:=own_newH hX2 (CObj.cells ⟨[.string ⟨#[105,116,101,109]⟩,.string items[p],.slice none 0 0],31,0,0,false⟩)
 have hx4:ExtS (Only xb) h _:=hx2.trans ((Ext.new h2 (CObj.cells ⟨[.string ⟨#[105,116,101,109]⟩,.string items[p],.slice none 0 0],31,0,0,false⟩)).toS)
 have hs5:=stores_own hZ4 (o:=0) (vs:=[.bool true,.int .i64 ((p+1:Nat):Int),.slice (some ⟨h2.next,0,none⟩) 1 1]) (c1:=[.bool true,.int .i64 ((p+1:Nat):Int),.slice (some ⟨h2.next,0,none⟩) 1 1]) rfl rfl (by simp)
 have hZ5:=own_put_same hZ4 [.bool true,.int .i64 ((p+1:Nat):Int),.slice (some ⟨h2.next,0,none⟩) 1 1]
 have hX5:=own_put hX4 hne (.cells ⟨[.bool true,.int .i64 ((p+1:Nat):Int),.slice (some ⟨h2.next,0,none⟩) 1 1],75,0,0,false⟩)
 have hx5:=hx4.put (b:=h.next) (.inl (Nat.le_refl _)) (.cells ⟨[.bool true,.int .i64 ((p+1:Nat):Int),.slice (some ⟨h2.next,0,none⟩) 1 1],75,0,0,false⟩)
 have hn2:h2.next≠h.next:=Nat.ne_of_gt hZ2.2.1
 have hR5:=own_put hrow hn2 (.cells ⟨[.bool true,.int .i64 ((p+1:Nat):Int),.slice (some ⟨h2.next,0,none⟩) 1 1],75,0,0,false⟩)
 have hw:=wrap64_succ hlt (Nat.le_trans R.hb (by decide))
 cases hT with
 | any =>
   simp -dsimp only [go_sem,g0,g1,g2,load_own hX2,k0,ia25 hlt,hld2]
   obtain ⟨_,_,hs,hv,hh⟩:=any_c items[p] h2
   rw [hv,hh] at hs
   refine ⟨_,_,hs,?_⟩
   simp -dsimp only [go_sem,g0,g1,load_own hX2,ia25 hlt,hld2,hw,bs29 1 (by decide),repeatN,hs5,hr,loads_own hZ5]
   refine ⟨hx5,hX5,?_⟩
   rw [if_pos (by rw [hone];rfl)]
   exact ⟨_,h2.next,hps,rfl,hx2.next,hR5⟩
 | is pb d t k hp =>
   simp -dsimp only [go_sem,g0,g1,g2,load_own hX2,k0,ia25 hlt,hld2]
   obtain ⟨_,_,hs,hv,hh⟩:=is_c items[p] h2 (hTT hp)
   rw [hv,hh] at hs
   refine ⟨_,_,hs,?_⟩
   simp -dsimp only [go_sem]
   refine Wcond_in (fun hm => ?_) (fun hm => ?_)
   ·simp -dsimp only [go_sem,hs0,hr,loads_own hZ3]
    refine ⟨hx3,hX3,?_⟩
    rw [if_neg (by rw [hone];simpa [testB] using hm)]
   ·simp -dsimp only [go_sem,g0,g1,load_own hX2,ia25 hlt,hld2,hw,bs29 1 (by decide),repeatN,hs5,hr,loads_own hZ5]
    refine ⟨hx5,hX5,?_⟩
    rw [if_pos (by rw [hone];simpa [testB] using hm)]
    exact ⟨_,h2.next,hps,rfl,hx2.next,hR5⟩
end Go.Ev.G24
end
section
namespace Go.Ev.G24
open Go.RowKit Go.Proofs
variable {h h1 h2:Hp} {B F B' F':Nat→Prop}
structure RowAt (h:Hp) (b:Nat) (cs:List Value) (f:Nat):Prop where
 lo:h.base≤b
 lt:b<h.next
 row:∃bs g,h.row b=some ⟨cs,31,f,bs,g⟩
 fl:f≠0→f<h.nfam
theorem row_loads {b o n:Nat} {cs:List Value} {f:Nat} (k:RowAt h b cs f):h.loads ⟨b,o,none⟩ n=takeN (cs.drop o) n:=by
 obtain ⟨bs,g,hr⟩:=k.row
 cases n with
 | zero=>simp [Hp.loads,takeN]
 | succ n=>simp only [Hp.loads,blt_false k.lo,hr]
structure Keeps (B F:Nat→Prop) (h h1:Hp):Prop where
 base:h1.base=h.base
 ro:h1.ro=h.ro
 next:h.next≤h1.next
 nfam:h.nfam≤h1.nfam
 rows:∀b cs f,RowAt h b cs f→¬B b→¬F f→RowAt h1 b cs f
theorem Keeps.trans (x:Keeps B F h h1) (y:Keeps B F h1 h2):Keeps B F h h2 :=
 ⟨y.base.trans x.base,y.ro.trans x.ro,Nat.le_trans x.next y.next,Nat.le_trans x.nfam y.nfam,fun b cs f k hb hf=>y.rows b cs f (x.rows b cs f k hb hf) hb hf⟩
theorem Keeps.mono (x:Keeps B F h h1) (hB:∀b,b<h.next→B b→B' b) (hF:∀f,f≠0→f<h.nfam→F f→F' f) (h0:¬F 0):Keeps B' F' h h1 :=
 ⟨x.base,x.ro,x.next,x.nfam,fun b cs f k hb hf=>x.rows b cs f k (fun c=>hb (hB b k.lt c)) (fun c=>hf (hF f (fun e=>h0 (e ▸ c)) (k.fl (fun e=>h0 (e ▸ c))) c))⟩
theorem keepsS {S:Nat→Prop} (x:ExtS S h h1):Keeps S (fun _=>False) h h1:=by
 refine ⟨x.base,x.ro,x.next,x.nfam,fun b cs f k hb _=>⟨by rw [x.base];exact k.lo,Nat.lt_of_lt_of_le k.lt x.next,?_,fun e=>Nat.lt_of_lt_of_le (k.fl e) x.nfam⟩⟩
 obtain ⟨bs,g,hr⟩:=k.row
 refine ⟨bs,g,?_⟩
 unfold Hp.row at hr ⊢
 rw [x.objs b k.lt hb]
 cases hg:h.objs.get b with
 | none=>rw [hg] at hr;cases hr
 | some ob =>
   rw [hg] at hr
   cases ob with
   | cells r =>
     simp only at hr ⊢
     cases hf:r.fam with
     | zero=>rw [hf] at hr;exact hr
     | succ q =>
       rw [hf] at hr
       simp only at hr ⊢
       have hrf:r=⟨cs,31,f,bs,g⟩:=by
        split at hr
        ·split at hr
         ·injection hr
         ·cases hr
        ·cases hr
       have hfq:f=q+1:=by rw [←hf,hrf]
       rw [x.fams (q+1) (by rw [←hfq];exact k.fl (by omega))]
       exact hr
   | map es k=>cases hr
   | sIter s p=>cases hr
   | mIter a b c d=>cases hr
theorem keepsE (x:Ext h h1):Keeps (fun _=>False) (fun _=>False) h h1:=keepsS (x.toS (S:=fun _=>False))
inductive TreeAt (h:Hp) (B F:Nat→Prop):Part→List Value→Prop
 | mk (d t:ByteArray) (l:List Part) (Av:Option Addr) (c b o f:Nat) (row:List Value) (css:Nat→List Value) (hc:l.length≤c) (hs:spotless Av=true)
  (hA:l≠[]→Av=some ⟨b,o,none⟩∧RowAt h b row f∧¬B b∧¬F f) (hat:∀(i:Nat) (p:Part),l[i]? = some p→takeN (row.drop (o+i*3)) 3=some (css i)) (hk:∀(i:Nat) (p:Part),l[i]? = some p→TreeAt h B F p (css i)) :
  TreeAt h B F ⟨d,t,l⟩ [.string d,.string t,.slice Av l.length c]
def KidsAt (h:Hp) (B F:Nat→Prop) (l:List Part) (v:Value):Prop:=∃(Av:Option Addr) (c b o f:Nat) (row:List Value) (css:Nat→List Value),v=.slice Av l.length c∧l.length≤c∧spotless Av=true ∧
 (l≠[]→Av=some ⟨b,o,none⟩∧RowAt h b row f∧¬B b∧¬F f)∧(∀(i:Nat) (p:Part),l[i]? = some p→takeN (row.drop (o+i*3)) 3=some (css i))∧∀(i:Nat) (p:Part),l[i]? = some p→TreeAt h B F p (css i)
theorem TreeAt.kids {p:Part} {cs:List Value} (k:TreeAt h B F p cs):∃v,cs=[.string p.d,.string p.t,v]∧KidsAt h B F p.l v:=by
 cases k with
 | mk d t l Av c b o f row css hc hs hA hat hk=>exact ⟨_,rfl,Av,c,b,o,f,row,css,rfl,hc,hs,hA,hat,hk⟩
theorem KidsAt.tree {d t:ByteArray} {l:List Part} {v:Value} (k:KidsAt h B F l v):TreeAt h B F ⟨d,t,l⟩ [.string d,.string t,v]:=by
 obtain ⟨Av,c,b,o,f,row,css,rfl,hc,hs,hA,hat,hk⟩:=k
 exact .mk d t l Av c b o f row css hc hs hA hat hk
theorem TreeAt.keep (x:Keeps B F h h1) {p:Part} {cs:List Value} (k:TreeAt h B F p cs):TreeAt h1 B F p cs:=by
 induction k with
 | mk d t l Av c b o f row css hc hs hA hat hk ih =>
   exact .mk d t l Av c b o f row css hc hs (fun e=>let ⟨a1,a2,a3,a4⟩:=hA e;⟨a1,x.rows _ _ _ a2 a3 a4,a3,a4⟩) hat ih
theorem KidsAt.keep (x:Keeps B F h h1) {l:List Part} {v:Value} (k:KidsAt h B F l v):KidsAt h1 B F l v:=by
 obtain ⟨Av,c,b,o,f,row,css,rfl,hc,hs,hA,hat,hk⟩:=k
 exact ⟨Av,c,b,o,f,row,css,rfl,hc,hs,fun e=>let ⟨a1,a2,a3,a4⟩:=hA e;⟨a1,x.rows _ _ _ a2 a3 a4,a3,a4⟩,hat,fun i p e=>(hk i p e).keep x⟩
theorem TreeAt.more (hB:∀b,b<h.next→B' b→B b) (hF:∀f,F' f→F f∨(f≠0∧h.nfam≤f)) {p:Part} {cs:List Value} (k:TreeAt h B F p cs):TreeAt h B' F' p cs:=by
 induction k with
 | mk d t l Av c b o f row css hc hs hA hat hk ih =>
   refine .mk d t l Av c b o f row css hc hs (fun e => ?_) hat ih
   obtain ⟨a1,a2,a3,a4⟩:=hA e
   refine ⟨a1,a2,fun c=>a3 (hB _ a2.lt c),fun c => ?_⟩
   rcases hF _ c with q|⟨q1,q2⟩
   ·exact a4 q
   ·have:=a2.fl q1;omega
theorem KidsAt.more (hB:∀b,b<h.next→B' b→B b) (hF:∀f,F' f→F f∨(f≠0∧h.nfam≤f)) {l:List Part} {v:Value} (k:KidsAt h B F l v):KidsAt h B' F' l v:=by
 obtain ⟨Av,c,b,o,f,row,css,rfl,hc,hs,hA,hat,hk⟩:=k
 refine ⟨Av,c,b,o,f,row,css,rfl,hc,hs,fun e => ?_,hat,fun i p e=>(hk i p e).more hB hF⟩
 obtain ⟨a1,a2,a3,a4⟩:=hA e
 refine ⟨a1,a2,fun c=>a3 (hB _ a2.lt c),fun c => ?_⟩
 rcases hF _ c with q|⟨q1,q2⟩
 ·exact a4 q
 ·have:=a2.fl q1;omega
theorem KidsAt.nil:KidsAt h B F [] (.slice none 0 0):=⟨none,0,0,0,0,[],fun _=>[],rfl,Nat.le_refl _,rfl,fun e=>absurd rfl e,fun i p e=>by simp at e,fun i p e=>by simp at e⟩
theorem append_of {P:Program} {t e:TypeId} {s:Nat} {z:Value} (hu:P.underlying t=some (.slice e)) (hs:sizeOf' P e=some s) (hz:zero' P e=some z) (hzl:Nat.beq z.cells.toList.length s=true∧0<s)
  (hby:(match P.info? e with|some i=>Nat.ble i.bytes 100000&&Nat.blt 0 i.bytes|none=>false)=true) (h:Hp) {base:Option Addr} {len cap n:Nat} {x:Value} {r:List Value} {xt:List TypeId} {new:List Value}
  (hn:lenOf' x=some n) (hf:first' h s n x=some new) (hl:len+n≤1000000) (hc:len≤cap) (h1:new.all oneCell=true) (h2:new.length=n*s) (hni:noInt P xt=true) :
  append' P h (t::xt) (.slice base len cap::x::r)=apd h e s base len cap n new:=by
 cases hi:P.info? e with
 | none=>rw [hi] at hby;cases hby
 | some i =>
   rw [hi] at hby
   simp only [Bool.and_eq_true] at hby
   have hsz:i.size=s:=by unfold sizeOf' at hs;rw [hi] at hs;injection hs
   have b1:Nat.blt 0 s=true:=by simpa using hzl.2
   have b2:Nat.ble (len+n) 1000000=true:=by simpa using hl
   have b3:Nat.ble len cap=true:=by simpa using hc
   have b4:Nat.beq new.length (n*s)=true:=by rw [h2];simp
   simp only [append',hu,hni,hi,hz,hsz,hzl.1,b1,hby.1,hby.2,hn,hf,b2,b3,h1,b4]
theorem apd29 (h:Hp) {base:Option Addr} {len cap n:Nat} {x:Value} {new:List Value} (hn:lenOf' x=some n) (hf:first' h 3 n x=some new) (hl:len+n≤1000000) (hc:len≤cap) (h1:new.all oneCell=true) (h2:new.length=n*3) :
  append' Try.prog h [29,29] [.slice base len cap,x]=apd h 31 3 base len cap n new :=
 append_of Try.underlying29 sz31 z31 (by exact ⟨rfl,by decide⟩) (by kernel_rfl) h hn hf hl hc h1 h2 (by kernel_rfl)
theorem apd_nil (h:Hp) {n:Nat} (hn:0<n) (new:List Value):apd h 31 3 none 0 0 n new=some (.slice (some ⟨h.next,0,none⟩) n n,h.newH (.cells ⟨new,31,0,0,true⟩)):=by
 have:Nat.ble (0+n) 0=false:=by
  cases e:Nat.ble (0+n) 0 with
  | false=>rfl
  | true=>have:=Nat.le_of_ble_eq_true e;omega
 simp only [apd,this,Hp.grownRow,new_eq]
theorem apd_zero (h:Hp) {base:Option Addr} {len cap:Nat} (hc:len≤cap):apd h 31 3 base len cap 0 []=some (.slice base len cap,h):=by
 have:Nat.ble (len+0) cap=true:=by simpa using hc
 unfold apd
 rw [this]
 cases base with
 | none=>rfl
 | some a=>simp only [Hp.stores];rfl
theorem ble_false {a b:Nat} (h:b<a):Nat.ble a b=false:=by
 cases e:Nat.ble a b with
 | false=>rfl
 | true=>have:=Nat.le_of_ble_eq_true e;omega
theorem apd_own {b f len n:Nat} {row new:List Value} (k:RowAt h b row f) (hlen:row.length=len*3) (hn:0<n) (hl:0<len):∃f' h',apd h 31 3 (some ⟨b,0,none⟩) len len n new=some (.slice (some ⟨h.next,0,none⟩) (len+n) (len+n),h') ∧
  RowAt h' h.next (row++new) f'∧(f'=f∧f≠0∨f'=h.nfam)∧h'.base=h.base∧h'.ro=h.ro∧h'.next=h.next+1∧h.nfam≤h'.nfam∧(∀x,x<h.next→x≠b→h'.objs.get x=h.objs.get x)∧∀q,q<h.nfam→¬(q=f∧f≠0)→h'.fams.get q=h.fams.get q:=by
 obtain ⟨bs,g,hr⟩:=k.row
 have htake:∀(l:List Value) (q:Nat),l.length=q→takeN l q=some l:=by
  intro l
  induction l with
  | nil=>intro q e;subst e;rfl
  | cons v l ih=>intro q e;subst e;simp only [List.length_cons,takeN,ih _ rfl]
 have hld:h.loads ⟨b,0,none⟩ (len*3)=some row:=by
  rw [row_loads k,List.drop_zero]
  exact htake row _ hlen
 have hc:Nat.ble (len+n) len=false:=ble_false (by omega)
 have hbeq:Nat.beq 31 31=true:=rfl
 cases hf:f with
 | zero =>
   subst hf
   refine ⟨h.nfam,{ h with
    objs:=(h.objs.put b (.cells ⟨row,31,h.nfam,bs,g⟩)).put h.next (.cells ⟨row++new,31,h.nfam,bs+0,true⟩)
    next:=h.next+1
    fams:=h.fams.put h.nfam (⟨h.next,bs+0,bs+0+(row++new).length⟩::stays b bs (bs+row.length) (bs+0+len*3))
    nfam:=h.nfam+1 },?_,?_,.inr rfl,rfl,rfl,rfl,Nat.le_succ _,?_,?_⟩
   ·simp only [apd,hc,hr,hld,grow',hbeq]
   ·refine ⟨by have:=k.lo;have:=k.lt;show h.base≤h.next;omega,Nat.lt_succ_self _,⟨bs+0,true,?_⟩,fun _=>Nat.lt_succ_self _⟩
    simp only [Hp.row,Tr.get_put,if_true]
    cases hnf:h.nfam with
    | zero=>rfl
    | succ q=>simp only [Tr.get_put,if_true,List.any_cons,beq_nat,Bool.true_or]
   ·intro x hx hxb
    simp only [Tr.get_put,if_neg (Nat.ne_of_lt hx),if_neg hxb]
   ·intro q hq _
    simp only [Tr.get_put,if_neg (Nat.ne_of_lt hq)]
 | succ q0 =>
   subst hf
   have hfm:∃l,h.fams.get (q0+1)=some l:=by
    unfold Hp.row at hr
    split at hr
    ·rename_i r hg
     split at hr
     ·rename_i e0
      injection hr with hr
      rw [hr] at e0
      cases e0
     ·rename_i f0 e0
      split at hr
      ·rename_i l hl0
       split at hr
       ·injection hr with hr
        rw [hr] at e0
        have e1:q0+1=f0+1:=e0
        exact ⟨l,by rw [e1];exact hl0⟩
       ·cases hr
      ·cases hr
    ·cases hr
   obtain ⟨l,hl0⟩:=hfm
   refine ⟨q0+1,{ h with
    objs:=h.objs.put h.next (.cells ⟨row++new,31,q0+1,bs+0,true⟩)
    next:=h.next+1
    fams:=h.fams.put (q0+1) (⟨h.next,bs+0,bs+0+(row++new).length⟩::l.filter fun m=>Nat.ble m.hi (bs+0+len*3)) },?_,?_,.inl ⟨rfl,by omega⟩,rfl,rfl,rfl,Nat.le_refl _,?_,?_⟩
   ·simp only [apd,hc,hr,hld,grow',hbeq,hl0]
   ·refine ⟨by have:=k.lo;have:=k.lt;show h.base≤h.next;omega,Nat.lt_succ_self _,⟨bs+0,true,?_⟩,fun e=>k.fl e⟩
    simp only [Hp.row,Tr.get_put,if_true,List.any_cons,beq_nat,Bool.true_or]
   ·intro x hx _
    simp only [Tr.get_put,if_neg (Nat.ne_of_lt hx)]
   ·intro q hq hqf
    have:¬q=q0+1:=fun e=>hqf ⟨e,by omega⟩
    simp only [Tr.get_put,if_neg this]
end Go.Ev.G24
end
section
namespace Go.Ev.G24
open Go.RowKit Go.Proofs
variable {h h1 h2:Hp} {B F B' F':Nat→Prop}
theorem takeN_ok:∀(n:Nat) (l:List Value),n≤l.length→takeN l n=some (l.take n)
 | 0,l,_=>by cases l<;>rfl
 | n+1,[],h=>by simp at h
 | n+1,v::l,h=>by simp only [takeN,takeN_ok n l (by simpa using h),List.take_succ_cons]
theorem takeN_some:∀(n:Nat) (l x:List Value),takeN l n=some x→n≤l.length∧x=l.take n
 | 0,l,x,h=>by
   have:x=[]:=by cases l<;>simp [takeN] at h<;>first|exact h.symm|exact h
   subst this
   exact ⟨Nat.zero_le _,rfl⟩
 | n+1,[],x,h=>by simp [takeN] at h
 | n+1,v::l,x,h=>by
   simp only [takeN] at h
   split at h
   ·rename_i y hy
    injection h with h
    subst h
    obtain ⟨h1,h2⟩:=takeN_some n l y hy
    exact ⟨by simpa using h1,by rw [h2,List.take_succ_cons]⟩
   ·cases h
theorem kids_cells {row:List Value} {o n:Nat} {css:Nat→List Value} (h:∀i,i<n→takeN (row.drop (o+i*3)) 3=some (css i)) (hn:0<n) :
  ∃new,takeN (row.drop o) (n*3)=some new∧new.length=n*3∧∀i,i<n→takeN (new.drop (i*3)) 3=some (css i):=by
 obtain ⟨q1,_⟩:=takeN_some _ _ _ (h (n - 1) (by omega))
 rw [List.length_drop] at q1
 have hlen:n*3≤(row.drop o).length:=by rw [List.length_drop];omega
 refine ⟨_,takeN_ok _ _ hlen,by rw [List.length_take];omega,fun i hi => ?_⟩
 obtain ⟨p1,p2⟩:=takeN_some _ _ _ (h i hi)
 rw [takeN_ok _ _ (by rw [List.length_drop,List.length_take];omega),p2]
 congr 1
 rw [List.drop_take,List.take_take,List.drop_drop,Nat.min_eq_left (by omega)]
theorem cells_plain {new:List Value} {n:Nat} {css:Nat→List Value} (hl:new.length=n*3) (h:∀i,i<n→takeN (new.drop (i*3)) 3=some (css i)) (hc:∀i,i<n→(css i).all oneCell=true):new.all oneCell=true:=by
 rw [List.all_eq_true]
 intro x hx
 obtain ⟨q,hq,rfl⟩:=List.mem_iff_getElem.1 hx
 have hi:q / 3<n:=by omega
 obtain ⟨_,p2⟩:=takeN_some _ _ _ (h _ hi)
 have hm:new[q]∈css (q / 3):=by
  rw [p2,List.mem_iff_getElem?]
  refine ⟨q % 3,?_⟩
  rw [List.getElem?_take_of_lt (by omega),List.getElem?_drop,show q / 3*3+q % 3=q by omega,List.getElem?_eq_getElem hq]
 exact List.all_eq_true.1 (hc _ hi) _ hm
theorem TreeAt.plain {p:Part} {cs:List Value} (k:TreeAt h B F p cs):cs.all oneCell=true:=by
 cases k with
 | mk d t l Av c b o f row css hc hs hA hat hk=>rfl
theorem get_lt {α:Type} {l:List α} {i:Nat} (hi:i<l.length):l[i]? = some l[i]:=List.getElem?_eq_getElem hi
def Mine (h:Hp) (n0 f0:Nat) (B F:Nat→Prop) (l:List Part) (v:Value):Prop:=(l=[]∧v=.slice none 0 0) ∨
 ∃(b f:Nat) (row:List Value) (css:Nat→List Value),l≠[]∧v=.slice (some ⟨b,0,none⟩) l.length l.length∧RowAt h b row f∧row.length=l.length*3∧n0≤b∧(f≠0→f0≤f) ∧
  (∀(i:Nat) (p:Part),l[i]? = some p→takeN (row.drop (i*3)) 3=some (css i))∧∀(i:Nat) (p:Part),l[i]? = some p→TreeAt h (fun x=>B x∨x=b) (fun q=>F q∨(q=f∧f≠0)) p (css i)
def ownB (v:Value):Nat→Prop:=fun x=>match v with
 | .slice (some a) _ _=>x=a.block
 | _=>False
def ownF (h:Hp) (v:Value):Nat→Prop:=fun q=>match v with
 | .slice (some a) _ _=>q≠0∧∃r,h.row a.block=some r∧r.fam=q
 | _=>False
theorem KidsAt.cells {l:List Part} {v:Value} (k:KidsAt h B F l v) (hl:l≠[]):∃(new:List Value) (css:Nat→List Value),lenOf' v=some l.length∧first' h 3 l.length v=some new∧new.length=l.length*3∧new.all oneCell=true∧(∀i:Nat,i<l.length→takeN (new.drop (i*3)) 3=some (css i))∧∀(i:Nat) (p:Part),l[i]? = some p→TreeAt h B F p (css i):=by
 obtain ⟨Av,c,b,o,f,row,css,rfl,hc,hs,hA,hat,hk⟩:=k
 obtain ⟨rfl,hr,h3,h4⟩:=hA hl
 have hpos:0<l.length:=List.length_pos_iff.2 hl
 obtain ⟨new,q1,q2,q3⟩:=kids_cells (css:=css) (fun i hi=>hat i _ (get_lt hi)) hpos
 refine ⟨new,css,rfl,?_,q2,cells_plain q2 q3 (fun i hi=>(hk i _ (get_lt hi)).plain),q3,hk⟩
 simp only [first',row_loads hr,q1]
theorem KidsAt.none {v:Value} (k:KidsAt h B F [] v):lenOf' v=some 0∧first' h 3 0 v=some []:=by
 obtain ⟨Av,c,b,o,f,row,css,rfl,hc,hs,hA,hat,hk⟩:=k
 refine ⟨rfl,?_⟩
 cases Av with
 | none=>rfl
 | some a=>simp [first',Hp.loads]
theorem row_fam {b f:Nat} {cs:List Value} (k:RowAt h b cs f) {r:Row} (hr:h.row b=some r):r.fam=f:=by
 obtain ⟨bs,g,h2⟩:=k.row
 rw [hr] at h2
 injection h2 with h2
 rw [h2]
theorem ownF_eq {b f n c:Nat} {cs:List Value} (k:RowAt h b cs f) (q:Nat):ownF h (.slice (some ⟨b,0,none⟩) n c) q↔(q=f∧f≠0):=by
 constructor
 ·rintro ⟨h1,r,h2,h3⟩
  have:=row_fam k h2
  exact ⟨by rw [←h3,this],by rw [←this,h3];exact h1⟩
 ·rintro ⟨rfl,h1⟩
  obtain ⟨bs,g,h2⟩:=k.row
  exact ⟨h1,_,h2,rfl⟩
theorem grow_extS {S:Nat→Prop} {h0 h':Hp} {b f:Nat} (x:ExtS S h0 h) (hb:h0.next≤b) (hf:f≠0→h0.nfam≤f) (e1:h'.base=h.base) (e2:h'.ro=h.ro) (e3:h'.next=h.next+1) (e4:h.nfam≤h'.nfam)
  (e5:∀x,x<h.next→x≠b→h'.objs.get x=h.objs.get x) (e6:∀q,q<h.nfam→¬(q=f∧f≠0)→h'.fams.get q=h.fams.get q):ExtS S h0 h' :=
 ⟨e1.trans x.base,e2.trans x.ro,by rw [e3];exact Nat.le_succ_of_le x.next,fun d hd hs=>by
  rw [e5 d (Nat.lt_of_lt_of_le hd x.next) (by omega)]
  exact x.objs d hd hs,Nat.le_trans x.nfam e4,fun q hq=>by
  rw [e6 q (Nat.lt_of_lt_of_le hq x.nfam) (fun ⟨a,b⟩=>by have:=hf b;omega)]
  exact x.fams q hq⟩
theorem grow_keeps {h':Hp} {b f:Nat} (e1:h'.base=h.base) (e2:h'.ro=h.ro) (e3:h'.next=h.next+1) (e4:h.nfam≤h'.nfam)
  (e5:∀x,x<h.next→x≠b→h'.objs.get x=h.objs.get x) (e6:∀q,q<h.nfam→¬(q=f∧f≠0)→h'.fams.get q=h.fams.get q):Keeps (fun x=>x=b) (fun q=>q=f∧f≠0) h h':=by
 refine ⟨e1,e2,by omega,e4,fun d cs q k hb hf=>⟨by rw [e1];exact k.lo,by have:=k.lt;omega,?_,fun e=>Nat.lt_of_lt_of_le (k.fl e) e4⟩⟩
 obtain ⟨bs,g,hr⟩:=k.row
 refine ⟨bs,g,?_⟩
 have hfam:=row_fam k hr
 unfold Hp.row at hr ⊢
 rw [e5 d k.lt hb]
 cases hg:h.objs.get d with
 | none=>rw [hg] at hr;cases hr
 | some ob =>
   rw [hg] at hr
   cases ob with
   | cells r =>
     simp only at hr ⊢
     cases hrf:r.fam with
     | zero=>rw [hrf] at hr;exact hr
     | succ z =>
       rw [hrf] at hr
       simp only at hr ⊢
       have hre:r=⟨cs,31,q,bs,g⟩:=by
        split at hr
        ·split at hr
         ·injection hr
         ·cases hr
        ·cases hr
       have hqz:q=z+1:=by rw [←hrf,hre]
       rw [e6 (z+1) (by rw [←hqz];exact k.fl (by omega)) (by rw [←hqz];exact hf)]
       exact hr
   | map es k=>cases hr
   | sIter s p=>cases hr
   | mIter a b c d=>cases hr
theorem mine_append {n0 f0:Nat} {l ks:List Part} {v w:Value} (M:Mine h n0 f0 B F l v) (K:KidsAt h (fun x=>B x∨ownB v x) (fun q=>F q∨ownF h v q) ks w) (hb:h.base≤h.next) (hn0:n0≤h.next) (hf0:f0≤h.nfam) (hsz:l.length+ks.length≤1000000) (hBn:∀x,B x→x<h.next) (hFn:∀q,F q→q<h.nfam) :
  ∃v' h',append' Try.prog h [29,29] [v,w]=some (v',h')∧Mine h' n0 f0 B F (l++ks) v'∧(∀(S:Nat→Prop) (h0:Hp),ExtS S h0 h→h0.next≤n0→h0.nfam≤f0→ExtS S h0 h')∧Keeps (ownB v) (ownF h v) h h'∧(∀x,ownB v' x→ownB v x∨h.next≤x)∧∀q,ownF h' v' q→ownF h v q∨h.nfam≤q:=by
 by_cases hks:ks=[]
 ·subst hks
  obtain ⟨k1,k2⟩:=K.none
  have same:∀{base:Option Addr} {len cap:Nat},len+0≤1000000→len≤cap→append' Try.prog h [29,29] [.slice base len cap,w]=some (.slice base len cap,h):=by
   intro base len cap h1 h2
   rw [apd29 h k1 k2 h1 h2 rfl rfl,apd_zero h h2]
  have hkk:Keeps (ownB v) (ownF h v) h h:=⟨rfl,rfl,Nat.le_refl _,Nat.le_refl _,fun _ _ _ k _ _=>k⟩
  rcases M with ⟨rfl,rfl⟩|⟨b,f,row,css,hl,rfl,hr,hrl,hb0,hf,hat,hk⟩
  ·exact ⟨_,_,same (by decide) (Nat.le_refl _),.inl ⟨rfl,rfl⟩,fun _ _ x _ _=>x,hkk,fun _ c=>.inl c,fun _ c=>.inl c⟩
  ·exact ⟨_,_,same (by simpa using hsz) (Nat.le_refl _),.inr ⟨b,f,row,css,by simpa using hl,by simp,hr,by simpa using hrl,hb0,hf,by simpa using hat,by simpa using hk⟩,fun _ _ x _ _=>x,hkk,fun _ c=>.inl c,fun _ c=>.inl c⟩
 ·obtain ⟨new,css,k1,k2,k3,k4,k5,k6⟩:=K.cells hks
  have hpos:0<ks.length:=List.length_pos_iff.2 hks
  rcases M with ⟨rfl,rfl⟩|⟨b,f,row,css0,hl,rfl,hr,hrl,hb0,hf,hat,hk⟩
  ·have hx:=Ext.new h (CObj.cells { c:=new,e:=31,fam:=0,base:=0,grown:=true })
   refine ⟨_,_,by rw [apd29 h k1 k2 (by simpa using hsz) (Nat.le_refl _) k4 k3,apd_nil h hpos],?_,?_,?_,fun x c=>.inr (by have c':x=h.next:=c;rw [c'];exact Nat.le_refl _),fun q c => ?_⟩
   ·refine .inr ⟨h.next,0,new,css,by simpa using hks,by simp,⟨hb,Nat.lt_succ_self _,⟨0,true,?_⟩,fun e=>absurd rfl e⟩,by simpa using k3,hn0,fun e=>absurd rfl e,fun i p hp => ?_,fun i p hp => ?_⟩
    ·simp only [Hp.row,get_newH,if_true]
    ·simp only [List.nil_append] at hp
     exact k5 i (List.getElem?_eq_some_iff.1 hp).1
    ·simp only [List.nil_append] at hp
     refine TreeAt.keep ?_ ((k6 i p hp).more (B':=fun x=>B x∨x=h.next) (F':=fun q=>F q∨(q=0∧0≠0)) (fun x hx c => ?_) (fun q c => ?_))
     ·exact (keepsE hx).mono (fun _ _ c=>c.elim) (fun _ _ _ c=>c.elim) (fun c=>c)
     ·rcases c with c|c
      ·exact .inl c
      ·omega
     ·rcases c with c|c
      ·exact .inl (.inl c)
      ·exact absurd rfl c.2
   ·exact fun S h0 x _ _=>x.trans hx.toS
   ·exact (keepsE hx).mono (fun _ _ c=>c.elim) (fun _ _ _ c=>c.elim) (fun c=>c)
   ·exfalso
    obtain ⟨c1,r,c2,c3⟩:=c
    simp only [Hp.row,get_newH,if_true] at c2
    injection c2 with c2
    rw [←c2] at c3
    exact c1 c3.symm
  ·have hlpos:0<l.length:=List.length_pos_iff.2 hl
   obtain ⟨f',h',a1,a2,a3,e1,e2,e3,e4,e5,e6⟩:=apd_own (new:=new) hr hrl hpos hlpos
   have hkeep:=grow_keeps e1 e2 e3 e4 e5 e6
   refine ⟨_,h',by rw [apd29 h k1 k2 hsz (Nat.le_refl _) k4 k3,a1],?_,?_,?_,fun x c=>.inr (by have c':x=h.next:=c;rw [c'];exact Nat.le_refl _),fun q c => ?_⟩
   ·have hf':f'≠0→f0≤f':=by
     intro e
     rcases a3 with ⟨rfl,q⟩|rfl
     ·exact hf q
     ·exact hf0
    have move:∀{p:Part} {cs:List Value},TreeAt h (fun x=>B x∨x=b) (fun q=>F q∨(q=f∧f≠0)) p cs→TreeAt h' (fun x=>B x∨x=h.next) (fun q=>F q∨(q=f'∧f'≠0)) p cs:=by
     intro p cs t
     have t1:=t.more (B':=fun x=>(B x∨x=b)∨x=h.next) (F':=fun q=>(F q∨(q=f∧f≠0))∨(q=f'∧f'≠0)) (fun x hx c=>by
      rcases c with c|c
      ·exact c
      ·omega) (fun q c=>by
      rcases c with c|⟨rfl,c2⟩
      ·exact .inl c
      ·rcases a3 with ⟨rfl,q⟩|rfl
       ·exact .inl (.inr ⟨rfl,q⟩)
       ·exact .inr ⟨c2,Nat.le_refl _⟩)
     have t2:=t1.keep (hkeep.mono (fun x _ c=>.inl (.inr c)) (fun q _ _ c=>.inl (.inr c)) (fun c=>c.2 c.1.symm))
     refine t2.more (fun x hx c => ?_) (fun q c=>.inl ?_)
     ·rcases c with c|c
      ·exact .inl (.inl c)
      ·exact .inr c
     ·rcases c with c|c
      ·exact .inl (.inl c)
      ·exact .inr c
    refine .inr ⟨h.next,f',row++new,fun i=>if i<l.length then css0 i else css (i - l.length),by simp [hl],by simp,a2,by rw [List.length_append,List.length_append,hrl,k3];omega,hn0,hf',fun i p hp => ?_,fun i p hp => ?_⟩
    ·by_cases c:i<l.length
     ·rw [List.getElem?_append_left c] at hp
      have:=hat i p hp
      obtain ⟨q1,q2⟩:=takeN_some _ _ _ this
      simp only [if_pos c]
      rw [List.length_drop] at q1
      rw [takeN_ok _ _ (by rw [List.length_drop,List.length_append];omega),q2]
      congr 1
      rw [List.drop_append_of_le_length (by omega),List.take_append_of_le_length (by rw [List.length_drop];omega)]
     ·rw [List.getElem?_append_right (by omega)] at hp
      simp only [if_neg c]
      have:=k5 (i - l.length) (List.getElem?_eq_some_iff.1 hp).1
      rw [←this,List.drop_append,List.drop_eq_nil_of_le (by rw [hrl];omega),List.nil_append,hrl,show i*3 - l.length*3=(i - l.length)*3 by omega]
    ·by_cases c:i<l.length
     ·rw [List.getElem?_append_left c] at hp
      simp only [if_pos c]
      exact move (hk i p hp)
     ·rw [List.getElem?_append_right (by omega)] at hp
      simp only [if_neg c]
      refine move ((k6 _ p hp).more (fun x _ c => ?_) (fun q c=>.inl ?_))
      ·rcases c with c|c
       ·exact .inl c
       ·exact .inr c
      ·rcases c with c|c
       ·exact .inl c
       ·exact .inr ((ownF_eq hr q).2 c)
   ·exact fun S h0 x hh1 hh2=>grow_extS x (Nat.le_trans hh1 hb0) (fun e=>Nat.le_trans hh2 (hf e)) e1 e2 e3 e4 e5 e6
   ·exact hkeep.mono (fun x _ c=>c) (fun q _ _ c=>(ownF_eq hr q).2 c) (fun c=>c.2 c.1.symm)
   ·obtain ⟨rfl,c2⟩:=(ownF_eq a2 q).1 c
    rcases a3 with ⟨rfl,d⟩|rfl
    ·exact .inl ((ownF_eq hr q).2 ⟨rfl,d⟩)
    ·exact .inr (Nat.le_refl _)
end Go.Ev.G24
end
section
namespace Go.Ev.G24
open Go.RowKit Go.Proofs
variable {h h1 h2:Hp} {B F B' F':Nat→Prop}
def CopyP (p:Part) (h:Hp) (v:Value) (h1:Hp):Prop:=Ext h h1∧∃cs1:List Value,v=.agg cs1.toArray∧TreeAt h1 (fun b=>b<h.next) (fun f=>f≠0∧f<h.nfam) p cs1
def CopyC (p:Part):Prop:=∀(h:Hp) (cs:List Value),h.base≤h.next→TreeAt h (fun _=>False) (fun _=>False) p cs→∃v h1,Snd Try.prog 42 [.agg cs.toArray] h v h1∧CopyP p h v h1
inductive Few:Part→Prop
 | mk (d t:ByteArray) (l:List Part) (hl:l.length≤100000) (hk:∀(i:Nat) (p:Part),l[i]? = some p→Few p):Few ⟨d,t,l⟩
theorem Mine.keep {n0 f0:Nat} {l:List Part} {v:Value} (x:Ext h h1) (M:Mine h n0 f0 B F l v):Mine h1 n0 f0 B F l v:=by
 rcases M with ⟨rfl,rfl⟩|⟨b,f,row,css,hl,rfl,hr,hrl,hb0,hf,hat,hk⟩
 ·exact .inl ⟨rfl,rfl⟩
 ·exact .inr ⟨b,f,row,css,hl,rfl,(keepsE x).rows _ _ _ hr (fun c=>c) (fun c=>c),hrl,hb0,hf,hat,fun i p hp=>(hk i p hp).keep ((keepsE x).mono (fun _ _ c=>c.elim) (fun _ _ _ c=>c.elim) (fun c=>c))⟩
theorem Mine.lt {n0 f0:Nat} {l:List Part} {v:Value} (M:Mine h n0 f0 B F l v) {x:Nat} (hx:ownB v x):x<h.next:=by
 rcases M with ⟨rfl,rfl⟩|⟨b,f,row,css,hl,rfl,hr,hrl,hb0,hf,hat,hk⟩
 ·exact hx.elim
 ·have:x=b:=hx
  rw [this];exact hr.lt
theorem Mine.flt {n0 f0:Nat} {l:List Part} {v:Value} (M:Mine h n0 f0 B F l v) {q:Nat} (hq:ownF h v q):q≠0∧q<h.nfam:=by
 rcases M with ⟨rfl,rfl⟩|⟨b,f,row,css,hl,rfl,hr,hrl,hb0,hf,hat,hk⟩
 ·exact hq.elim
 ·obtain ⟨rfl,h2⟩:=(ownF_eq hr q).1 hq
  exact ⟨h2,hr.fl h2⟩
theorem Mine.ownF_same {n0 f0:Nat} {l:List Part} {v:Value} (M:Mine h n0 f0 B F l v) (x:Ext h h1) {q:Nat} (hq:ownF h1 v q):ownF h v q:=by
 rcases M with ⟨rfl,rfl⟩|⟨b,f,row,css,hl,rfl,hr,hrl,hb0,hf,hat,hk⟩
 ·exact hq.elim
 ·exact (ownF_eq hr q).2 ((ownF_eq ((keepsE x).rows _ _ _ hr (fun c=>c) (fun c=>c)) q).1 hq)
theorem Mine.kidsAt {n0 f0:Nat} {l:List Part} {v:Value} (M:Mine h n0 f0 B F l v) (hB:∀b,B b→b<n0) (hF:∀f,F f→f≠0∧f<f0):KidsAt h B F l v:=by
 rcases M with ⟨rfl,rfl⟩|⟨b,f,row,css,hl,rfl,hr,hrl,hb0,hf,hat,hk⟩
 ·exact KidsAt.nil
 ·refine ⟨_,_,b,0,f,row,css,rfl,Nat.le_refl _,rfl,fun _=>⟨rfl,hr,fun c=>by have:=hB _ c;omega,fun c=>by
   have:=hF _ c
   have:=hf this.1
   omega⟩,fun i p hp=>by rw [Nat.zero_add];exact hat i p hp,fun i p hp=>(hk i p hp).more (fun x _ c=>.inl c) (fun q c=>.inl (.inl c))⟩
set_option maxHeartbeats 4000000 in
set_option maxRecDepth 10000 in
theorem copied_c:∀(n:Nat) (p:Part),SizeOf.sizeOf p<n→Few p→CopyC p:=by
 intro n
 induction n with
 | zero=>exact fun p hp=>absurd hp (Nat.not_lt_zero _)
 | succ n ihn =>
 rintro ⟨d,t,l⟩ hn hfew h cs hb hp
 cases hfew with
 | mk _ _ _ hl1 hfk =>
 have ih:∀(i:Nat) (p:Part),l[i]? = some p→CopyC p:=fun i p hp=>ihn p (by
  have:=List.sizeOf_lt_of_mem (List.mem_of_getElem? hp)
  simp only [Part.mk.sizeOf_spec] at hn
  omega) (hfk i p hp)
 cases hp with
 | mk _ _ _ Av c b o f row css hc hs hA hat hk =>
 refine snd_go wf Try.func42 rfl rfl (n:=22) rfl (by kernel_rfl) rfl ?_
 intro a hn hg
 have hr:Try.f42.results.toList=[.cell 2 31]:=rfl
 have g0:=hg 0
 clear hg
 simp only [List.getElem?_cons_zero,List.getElem?_cons_succ] at g0
 have hP:=own_new hb 31 [.string d,.string t,.slice Av l.length c]
 have hx0:=Ext.new h (CObj.cells ⟨[.string d,.string t,.slice Av l.length c],31,0,0,false⟩)
 have hb0:=Nat.le_succ_of_le (m:=h.next) hb
 have hZ:=own_new (h:=h.newH (CObj.cells ⟨[.string d,.string t,.slice Av l.length c],31,0,0,false⟩)) hb0 31 [.string ⟨#[]⟩,.string ⟨#[]⟩,.slice none 0 0]
 have hP1:=own_newH hP (CObj.cells ⟨[.string ⟨#[]⟩,.string ⟨#[]⟩,.slice none 0 0],31,0,0,false⟩)
 have hx1:=hx0.trans (Ext.new _ (CObj.cells ⟨[.string ⟨#[]⟩,.string ⟨#[]⟩,.slice none 0 0],31,0,0,false⟩))
 have hb1:=Nat.le_succ_of_le hb0
 simp -dsimp only [go_sem,g0,next_newH,load_own hP1]
 simp only [next_newH] at hZ hb1
 generalize hh2:(h.newH (CObj.cells ⟨[.string d,.string t,.slice Av l.length c],31,0,0,false⟩)).newH (CObj.cells ⟨[.string ⟨#[]⟩,.string ⟨#[]⟩,.slice none 0 0],31,0,0,false⟩)=h2 at hP1 hZ hx1 hb1 ⊢
 have hn2:h2.next=h.next+1+1:=by rw [←hh2];rfl
 have hb2:h2.base≤h2.next:=by rw [hx1.base];exact Nat.le_trans hb hx1.next
 clear hh2 hP hx0 hb0
 refine loop_go (n:=22) (by kernel_rfl) (fun m' a' h'=>∃(i:Nat) (v:Value),i≤l.length∧m'=l.length - i∧Ext h2 h'∧Mine h' h2.next h2.nfam (fun b=>b<h2.next) (fun f=>f≠0∧f<h2.nfam) (l.take i) v ∧
  a'.get 1=.pointer (some ⟨h.next,0,none⟩)∧a'.get 2=.pointer (some ⟨h.next+1,0,none⟩)∧a'.get 3=v∧a'.get 7=.slice Av l.length c∧a'.get 8=.int .i64 l.length∧a'.get 9=.int .i64 i) ?_ l.length _ _ (by simp -dsimp only [go_sem,hn]) ⟨0,_,Nat.zero_le _,rfl,Ext.refl _,.inl ⟨rfl,rfl⟩,by simp -dsimp only [go_sem],by simp -dsimp only [go_sem],by simp -dsimp only [go_sem],by simp -dsimp only [go_sem],by simp -dsimp only [go_sem],by simp -dsimp only [go_sem];rfl⟩
 rintro m' a' h' hn' ⟨i,v,hi,rfl,hx,hMi,e1,e2,e3,e7,e8,e9⟩
 have hb':h'.base≤h'.next:=by rw [hx.base];exact Nat.le_trans hb2 hx.next
 by_cases hlt:i<l.length
 ·have hpi:l[i]? = some l[i]:=List.getElem?_eq_getElem hlt
  have hi1:decide ((i:Int)<(l.length:Int))=true:=decide_eq_true (Int.ofNat_lt.2 hlt)
  obtain ⟨hAv,hRow,_,_⟩:=hA (ne_nil hlt)
  subst hAv
  have hkid:=hk i _ hpi
  have hk1:=hkid.keep (keepsE (hx1.trans hx))
  have hRow':=(keepsE (hx1.trans hx)).rows _ _ _ hRow (fun c=>c) (fun c=>c)
  have hld:h'.loads ⟨b,o+i*3,none⟩ 3=some (css i):=by rw [row_loads hRow',hat i _ hpi]
  obtain ⟨kv,hcs,hkv⟩:=hkid.kids
  rw [hcs] at hld hk1
  obtain ⟨Avk,ck,bk,ok,fk,rowk,cssk,rfl,_⟩:=hkv
  obtain ⟨vS,vO,vX,vB,vR⟩:=var_ok hb' (e:=31) (c0:=[.string ⟨#[]⟩,.string ⟨#[]⟩,.slice none 0 0]) (c1:=[.string l[i].d,.string l[i].t,.slice Avk l[i].l.length ck]) rfl rfl (by simp)
  simp -dsimp only [go_sem,e1,e2,e3,e7,e8,e9,hi1,ia29 hlt,hld,vS,loads_own vO]
  obtain ⟨_,h4,hs4,hx4,cs1,rfl,ht4⟩:=ih i _ hpi _ _ vB (hk1.keep (keepsE vX))
  refine ⟨_,h4,hs4,?_⟩
  obtain ⟨kv1,hcs1,_⟩:=ht4.kids
  subst hcs1
  have hxk:=vX.trans hx4
  have hrow5:=own_new (show h4.base≤h4.next by rw [hxk.base];exact Nat.le_trans hb' hxk.next) 31 [.string l[i].d,.string l[i].t,kv1]
  have hx5:=Ext.new h4 (CObj.cells ⟨[.string l[i].d,.string l[i].t,kv1],31,0,0,false⟩)
  have hM5:=hMi.keep (hxk.trans hx5)
  have hK:KidsAt (h4.newH (CObj.cells ⟨[.string l[i].d,.string l[i].t,kv1],31,0,0,false⟩)) (fun x=>x<h2.next∨ownB (a'.get 3) x) (fun q=>(q≠0∧q<h2.nfam)∨ownF (h4.newH (CObj.cells ⟨[.string l[i].d,.string l[i].t,kv1],31,0,0,false⟩)) (a'.get 3) q) [l[i]] (.slice (some ⟨h4.next,0,none⟩) 1 1):=by
   rw [e3]
   refine ⟨_,_,h4.next,0,0,_,fun _=>[.string l[i].d,.string l[i].t,kv1],rfl,Nat.le_refl _,rfl,fun _=>⟨rfl,⟨hrow5.1,hrow5.2.1,⟨0,false,row_own hrow5⟩,fun e=>absurd rfl e⟩,?_,?_⟩,fun j p hj => ?_,fun j p hj => ?_⟩
   ·rintro (c|c)
    ·have:=hx.next;have:=hxk.next;omega
    ·have:=hMi.lt c;have:=hxk.next;omega
   ·rintro (c|c)
    ·exact c.1 rfl
    ·exact (hM5.flt c).1 rfl
   ·have:j=0:=by
     have:=(List.getElem?_eq_some_iff.1 hj).1
     simpa using this
    subst this
    rfl
   ·have:j=0:=by
     have:=(List.getElem?_eq_some_iff.1 hj).1
     simpa using this
    subst this
    simp only [List.getElem?_cons_zero,Option.some.injEq] at hj
    subst hj
    refine (ht4.more (B':=fun x=>x<h2.next∨ownB v x) (F':=fun q=>(q≠0∧q<h2.nfam)∨ownF (h4.newH (CObj.cells ⟨[.string l[i].d,.string l[i].t,kv1],31,0,0,false⟩)) v q) (fun x _ c => ?_) (fun q c=>.inl ?_)).keep ((keepsE hx5).mono (fun _ _ c=>c.elim) (fun _ _ _ c=>c.elim) (fun c=>c))
    ·rcases c with c|c
     ·have:=hx.next;have:=vX.next;omega
     ·have:=hMi.lt c;have:=vX.next;omega
    ·rcases c with c|c
     ·exact ⟨c.1,by have:=hx.nfam;have:=vX.nfam;omega⟩
     ·have:=hMi.flt (hMi.ownF_same (hxk.trans hx5) c)
      exact ⟨this.1,by have:=vX.nfam;omega⟩
  rw [e3] at hK
  obtain ⟨v',h6,ha6,hM6,hext6,_⟩:=mine_append hM5 hK (by rw [hx5.base,hxk.base];exact Nat.le_trans hb' (Nat.le_trans hxk.next hx5.next)) (Nat.le_trans hx.next (Nat.le_trans hxk.next hx5.next)) (Nat.le_trans hx.nfam (Nat.le_trans hxk.nfam hx5.nfam)) (by simp;omega) (fun x c=>Nat.lt_of_lt_of_le c (Nat.le_trans hx.next (Nat.le_trans hxk.next hx5.next))) (fun q c=>Nat.lt_of_lt_of_le c.2 (Nat.le_trans hx.nfam (Nat.le_trans hxk.nfam hx5.nfam)))
  have hx6:Ext h2 h6:=(hext6 (fun _=>False) h2 ((hx.trans (hxk.trans hx5)).toS) (Nat.le_refl _) (Nat.le_refl _)).ext (fun _ _ c=>c)
  simp -dsimp only [go_sem,e3,e8,e9,bs29 1 (by decide),repeatN,builtin',ha6,wrap64_succ hlt (Nat.le_trans hl1 (by decide))]
  refine ⟨l.length - (i+1),by omega,i+1,v',hlt,rfl,hx6,?_,e1,e2,rfl,e7,rfl⟩
  rw [List.take_succ_eq_append_getElem hlt]
  exact hM6
 ·have hi0:decide ((i:Int)<(l.length:Int))=false:=decide_eq_false (by omega)
  have hil:i=l.length:=by omega
  subst hil
  rw [List.take_length] at hMi
  have hP':=own_ext hx hP1
  have hZ':=own_ext hx hZ
  have hk9:∃A n c,v=.slice A n c:=by
   rcases hMi with ⟨_,rfl⟩|⟨_,_,_,_,_,rfl,_⟩<;>exact ⟨_,_,_,rfl⟩
  obtain ⟨A9,n9,c9,rfl⟩:=hk9
  have s1:=stores_own hP' (o:=2) (vs:=[.slice A9 n9 c9]) (c1:=[.string d,.string t,.slice A9 n9 c9]) rfl rfl (by simp)
  have hP7:=own_put_same hP' [.string d,.string t,.slice A9 n9 c9]
  have hne:h.next+1≠h.next:=by omega
  have hZ7:=own_put hZ' hne (.cells ⟨[.string d,.string t,.slice A9 n9 c9],31,0,0,false⟩)
  have s2:=stores_own hZ7 (o:=0) (vs:=[.string d,.string t,.slice A9 n9 c9]) (c1:=[.string d,.string t,.slice A9 n9 c9]) rfl rfl (by simp)
  have hZ8:=own_put_same hZ7 [.string d,.string t,.slice A9 n9 c9]
  simp -dsimp only [go_sem,e1,e2,e3,e8,e9,hi0,s1,loads_own hP7,s2,loads_own hZ8,hr]
  refine ⟨((hx1.trans hx).put (Nat.le_refl _) _).put (Nat.le_succ _) _,_,rfl,?_⟩
  have hkeep:Keeps (fun b=>b<h2.next) (fun f=>f≠0∧f<h2.nfam) h' ((h'.put h.next (.cells ⟨[.string d,.string t,.slice A9 n9 c9],31,0,0,false⟩)).put (h.next+1) (.cells ⟨[.string d,.string t,.slice A9 n9 c9],31,0,0,false⟩)):=by
   refine (keepsS (S:=fun b=>b<h2.next) ((((Ext.refl h').toS (S:=fun b=>b<h2.next)).put (b:=h.next) (.inr ?_) _).put (b:=h.next+1) (.inr ?_) _)).mono (fun _ _ c=>c) (fun _ _ _ c=>c.elim) (fun c=>c)
   ·show h.next<h2.next;omega
   ·show h.next+1<h2.next;omega
  have hT:=(hMi.kidsAt (fun b c=>c) (fun f c=>c)).keep hkeep
  exact (KidsAt.tree (d:=d) (t:=t) hT).more (fun x _ c=>by show x<h2.next;have:=hx1.next;omega) (fun q c=>.inl ⟨c.1,Nat.lt_of_lt_of_le c.2 hx1.nfam⟩)
end Go.Ev.G24
end
section
namespace Go.Ev.G24
open Go.RowKit Go.Proofs
variable {r:Ro}
structure RoStrs (r:Ro) (items:List ByteArray) (Iv:Option Addr) (c b o:Nat):Prop where
 hc:items.length≤c
 hb:items.length≤9223372036854775807
 hA:items≠[]→Iv=some ⟨b,o,none⟩
 hat:∀(i:Nat) (s:ByteArray),items[i]? = some s→roAt r b (o+i) [.string s]
 hs:spotless Iv=true
def shortB (items:List ByteArray) (most:Nat):Bool:=decide (items.length≤most)&&items.all fun s=>decide (s.data.toList.length≤200)
set_option maxHeartbeats 2000000 in
set_option maxRecDepth 10000 in
theorem short_c {items:List ByteArray} {Iv:Option Addr} {c b o:Nat} (R:RoStrs r items Iv c b o) (most:Nat) (h:Hp) (hrom:h.rom=r) :
  ∃v h1,Snd Try.prog 11 [.slice Iv items.length c,.int .i64 (most:Int)] h v h1∧v=.bool (shortB items most)∧h1=h:=by
 refine snd_go wf Try.func11 rfl rfl (n:=21) rfl (by kernel_rfl) rfl ?_
 intro a hn hg
 have hr:Try.f11.results.toList=[.tmp 4]:=rfl
 have g0:=hg 0
 have g1:=hg 1
 clear hg
 simp only [List.getElem?_cons_zero,List.getElem?_cons_succ] at g0 g1
 by_cases cm:items.length≤most
 rotate_left
 ·have k0:decide ((most:Int)<(items.length:Int))=true:=decide_eq_true (by omega)
  simp -dsimp only [go_sem,g0,g1,k0,hr]
  simp [shortB,cm]
 have k0:decide ((most:Int)<(items.length:Int))=false:=decide_eq_false (by omega)
 have e:shortB items most=items.all fun s=>decide (s.data.toList.length≤200):=by simp [shortB,cm]
 simp -dsimp only [go_sem,g0,g1,k0]
 refine loop_go (n:=21) (by kernel_rfl) (fun m' a' h'=>∃i:Nat,i≤items.length∧m'=items.length - i∧h'=h∧((items.drop i).all fun s=>decide (s.data.toList.length≤200))=(items.all fun s=>decide (s.data.toList.length≤200)) ∧
  a'.get 11=.slice Iv items.length c∧a'.get 12=.int .i64 items.length∧a'.get 13=.int .i64 i) ?_ items.length _ _ (by simp -dsimp only [go_sem,hn]) ⟨0,Nat.zero_le _,rfl,rfl,rfl,by simp -dsimp only [go_sem],by simp -dsimp only [go_sem],by simp -dsimp only [go_sem];rfl⟩
 rintro m' a' h' hn' ⟨i,hi,rfl,hh,hst,e11,e12,e13⟩
 rw [hh]
 by_cases hlt:i<items.length
 ·have hpi:items[i]? = some items[i]:=List.getElem?_eq_getElem hlt
  have hi1:decide ((i:Int)<(items.length:Int))=true:=decide_eq_true (Int.ofNat_lt.2 hlt)
  have hIv:=R.hA (ne_nil hlt)
  subst hIv
  have hld:h.load ⟨b,o+i,none⟩=some (.string items[i]):=by
   have:=load_ro hrom (R.hat i _ hpi) (j:=0) (v:=.string items[i]) rfl
   simpa using this
  rw [List.drop_eq_getElem_cons hlt,List.all_cons] at hst
  by_cases c2:items[i].data.toList.length≤200
  ·have k2:decide ((200:Int)<(items[i].data.toList.length:Int))=false:=decide_eq_false (by omega)
   rw [decide_eq_true c2,Bool.true_and] at hst
   simp -dsimp only [go_sem,e11,e12,e13,hi1,ia25 hlt,hld,k2,wrap64_succ hlt R.hb]
   exact ⟨items.length - (i+1),by omega,i+1,hlt,rfl,hst,rfl⟩
  ·have k2:decide ((200:Int)<(items[i].data.toList.length:Int))=true:=decide_eq_true (by omega)
   rw [decide_eq_false c2,Bool.false_and] at hst
   simp -dsimp only [go_sem,e11,e12,e13,hi1,ia25 hlt,hld,k2,hr]
   rw [e,←hst]
 ·have hi0:decide ((i:Int)<(items.length:Int))=false:=decide_eq_false (by omega)
  rw [List.drop_eq_nil_of_le (by omega),List.all_nil] at hst
  simp -dsimp only [go_sem,e12,e13,hi0,hr]
  rw [e,←hst]
end Go.Ev.G24
end
section
namespace Go.Ev.G24
open Go.RowKit Go.Proofs
variable {r:Ro}
mutual
def partsB (most:Nat):Nat→Part→Nat
 | deep,⟨d,t,l⟩=>if deep=0 then most+1 else if 200<t.data.toList.length then most+1 else if 40<d.data.toList.length then most+1 else partsL most (deep - 1) l 1
def partsL (most:Nat):Nat→List Part→Nat→Nat
 | _,[],n=>n
 | deep,x::l,n=>if n≤most then partsL most deep l (n+partsB most deep x) else n
end
mutual
theorem partsB_le (most:Nat):∀(p:Part) (deep:Nat),partsB most deep p≤(deep+1)*(most+1)
 | ⟨d,t,l⟩,deep=>by
   have h0:most+1≤(deep+1)*(most+1):=Nat.le_mul_of_pos_left _ (Nat.succ_pos _)
   unfold partsB
   split
   ·exact h0
   ·rename_i hd
    split
    ·exact h0
    ·split
     ·exact h0
     ·have:=partsL_le most l (deep - 1) 1 (most+(deep - 1+1)*(most+1)) (Nat.le_refl _) (by
       have:0<(deep - 1+1)*(most+1):=Nat.mul_pos (Nat.succ_pos _) (Nat.succ_pos _)
       omega)
      refine Nat.le_trans this ?_
      rw [show deep - 1+1=deep by omega,Nat.add_mul]
      omega
theorem partsL_le (most:Nat):∀(l:List Part) (deep n B:Nat),most+(deep+1)*(most+1)≤B→n≤B→partsL most deep l n≤B
 | [],deep,n,B,_,hn=>by unfold partsL;exact hn
 | x::l,deep,n,B,hB,hn=>by
   unfold partsL
   split
   ·have:=partsB_le most x deep
    exact partsL_le most l deep _ B hB (by omega)
   ·exact hn
end
def PartsC (r:Ro) (most:Nat) (p:Part):Prop:=∀(deep:Nat) (h:Hp) (cs:List Value),deep≤1000→h.rom=r→h.base≤h.next→RoPart r p cs→∃v h1,Snd Try.prog 36 [.agg cs.toArray,.int .i64 (deep:Int),.int .i64 (most:Int)] h v h1∧v=.int .i64 (partsB most deep p:Int)∧Ext h h1
set_option maxHeartbeats 4000000 in
set_option maxRecDepth 10000 in
theorem parts_c {most:Nat} (hmost:most≤100000):∀(n:Nat) (p:Part),SizeOf.sizeOf p<n→PartsC r most p:=by
 intro n
 induction n with
 | zero=>exact fun p hp=>absurd hp (Nat.not_lt_zero _)
 | succ n ihn =>
 rintro ⟨d,t,l⟩ hn deep h cs hdeep hrom hb hp
 have ih:∀(i:Nat) (p:Part),l[i]? = some p→PartsC r most p:=fun i p hp=>ihn p (by
  have:=List.sizeOf_lt_of_mem (List.mem_of_getElem? hp)
  simp only [Part.mk.sizeOf_spec] at hn
  omega)
 cases hp with
 | mk _ _ _ Av c b o css hc hlb hA hat hk hs =>
 refine snd_go wf Try.func36 rfl rfl (n:=49) rfl (by kernel_rfl) rfl ?_
 intro a hn hg
 have hr:Try.f36.results.toList=[.tmp 6]:=rfl
 have g0:=hg 0
 have g1:=hg 1
 have g2:=hg 2
 clear hg
 simp only [List.getElem?_cons_zero,List.getElem?_cons_succ] at g0 g1 g2
 have hP:=own_new hb 52 [.string d,.string t,.slice Av l.length c]
 have hx0:=Ext.new h (CObj.cells ⟨[.string d,.string t,.slice Av l.length c],52,0,0,false⟩)
 have hb1:=Nat.le_succ_of_le (m:=h.next) hb
 have hw:IntKind.i64.wrap ((most:Int)+1)=((most+1:Nat):Int):=wrap64_nat (n:=most+1) (by omega)
 by_cases cd:deep=0
 ·have k1:decide ((deep:Int)<1)=true:=decide_eq_true (by omega)
  simp -dsimp only [go_sem,undef',g0,g1,g2,k1,hw,hr]
  exact ⟨by unfold partsB;rw [if_pos cd],hx0⟩
 have k1:decide ((deep:Int)<1)=false:=decide_eq_false (by omega)
 by_cases ct:200<t.data.toList.length
 ·have k2:decide ((200:Int)<(t.data.toList.length:Int))=true:=decide_eq_true (by omega)
  simp -dsimp only [go_sem,undef',g0,g1,g2,k1,k2,load_own hP,hw,hr]
  exact ⟨by unfold partsB;rw [if_neg cd,if_pos ct],hx0⟩
 have k2:decide ((200:Int)<(t.data.toList.length:Int))=false:=decide_eq_false (by omega)
 by_cases cdo:40<d.data.toList.length
 ·have k3:decide ((40:Int)<(d.data.toList.length:Int))=true:=decide_eq_true (by omega)
  simp -dsimp only [go_sem,undef',g0,g1,g2,k1,k2,k3,load_own hP,hw,hr]
  exact ⟨by unfold partsB;rw [if_neg cd,if_neg ct,if_pos cdo],hx0⟩
 have k3:decide ((40:Int)<(d.data.toList.length:Int))=false:=decide_eq_false (by omega)
 have e:partsB most deep ⟨d,t,l⟩=partsL most (deep - 1) l 1:=by unfold partsB;rw [if_neg cd,if_neg ct,if_neg cdo]
 simp -dsimp only [go_sem,undef',g0,g1,g2,k1,k2,k3,load_own hP]
 refine loop_go (n:=49) (by kernel_rfl) (fun m' a' h'=>∃i k:Nat,i≤l.length∧m'=l.length - i∧k≤1002*(most+1)∧Ext (h.newH (CObj.cells ⟨[.string d,.string t,.slice Av l.length c],52,0,0,false⟩)) h'∧partsL most (deep - 1) (l.drop i) k=partsL most (deep - 1) l 1 ∧
  a'.get 1=.int .i64 deep∧a'.get 2=.int .i64 most∧a'.get 3=.pointer (some ⟨h.next,0,none⟩)∧a'.get 7=.int .i64 k∧a'.get 8=.int .i64 i) ?_ l.length _ _ (by simp -dsimp only [go_sem,hn]) ⟨0,1,Nat.zero_le _,rfl,by omega,Ext.refl _,rfl,by simp -dsimp only [go_sem,g1],by simp -dsimp only [go_sem,g2],by simp -dsimp only [go_sem],by simp -dsimp only [go_sem];rfl,by simp -dsimp only [go_sem];rfl⟩
 rintro m' a' h' hn' ⟨i,k,hi,rfl,hkb,hx,hst,e1,e2,e3,e7,e8⟩
 have hrom':h'.rom=r:=hx.rom.trans hrom
 have hb':h'.base≤h'.next:=by rw [hx.base];exact Nat.le_trans hb1 hx.next
 have hP':=own_ext hx hP
 by_cases hlt:i<l.length
 ·have hpi:l[i]? = some l[i]:=List.getElem?_eq_getElem hlt
  have hi1:decide ((i:Int)<(l.length:Int))=true:=decide_eq_true (Int.ofNat_lt.2 hlt)
  rw [List.drop_eq_getElem_cons hlt,partsL] at hst
  by_cases ck:k≤most
  ·have k4:decide ((k:Int)≤(most:Int))=true:=decide_eq_true (by omega)
   rw [if_pos ck] at hst
   obtain ⟨Av1,c1',hcs⟩:=(hk i _ hpi).shape
   have hat':=hat i _ hpi
   have hkid:=hk i _ hpi
   rw [hcs] at hat' hkid
   have hAv:=hA (ne_nil hlt)
   subst hAv
   have hwd:IntKind.i64.wrap ((deep:Int) - 1)=((deep - 1:Nat):Int):=by rw [IntKind.wrap_i64];omega
   simp -dsimp only [go_sem,e1,e2,e3,e7,e8,hi1,k4,load_own hP',ia50 hlt,loads_ro (n:=3) hrom' hat' rfl,hwd]
   obtain ⟨_,h2,hs2,rfl,hx2⟩:=ih i _ hpi (deep - 1) h' _ (by omega) hrom' hb' hkid
   refine ⟨_,h2,hs2,?_⟩
   have hle:=partsB_le most l[i] (deep - 1)
   have hle2:(deep - 1+1)*(most+1)≤1001*(most+1):=Nat.mul_le_mul_right _ (by omega)
   have hwk:IntKind.i64.wrap ((k:Int)+(partsB most (deep - 1) l[i]:Int))=((k+partsB most (deep - 1) l[i]:Nat):Int):=by rw [IntKind.wrap_i64];omega
   simp -dsimp only [go_sem,e1,e2,e3,e7,e8,hwk,wrap64_succ hlt hlb]
   exact ⟨l.length - (i+1),by omega,i+1,_,hlt,rfl,by omega,hx.trans hx2,hst,rfl,rfl⟩
  ·have k4:decide ((k:Int)≤(most:Int))=false:=decide_eq_false (by omega)
   rw [if_neg ck] at hst
   simp -dsimp only [go_sem,e1,e2,e3,e7,e8,hi1,k4,load_own hP',hr]
   exact ⟨by rw [e,←hst],hx0.trans hx⟩
 ·have hi0:decide ((i:Int)<(l.length:Int))=false:=decide_eq_false (by omega)
  rw [List.drop_eq_nil_of_le (by omega),partsL] at hst
  simp -dsimp only [go_sem,undef',e1,e2,e3,e7,e8,hi0,load_own hP',hr]
  exact ⟨by rw [e,←hst],hx0.trans hx⟩
end Go.Ev.G24
end
section
namespace Go.Ev.G24
open Go.RowKit Go.Proofs
variable {r:Ro}
def smallL (most:Nat):List Rule→Nat→Option Nat
 | [],n=>some n
 | x::l,n=>if n≤most then (if 200<x.name.data.toList.length then none else smallL most l (n+partsB most 40 x.body)) else some n
def smallB (most:Nat) (l:List Rule):Bool:=match smallL most l 0 with
 | none=>false
 | some n=>decide (n≤most)&&decide (l.length≤30)
theorem roAt_tail {b o:Nat} {v:Value} {cs:List Value} (h:roAt r b o (v::cs)):roAt r b (o+1) cs :=
 ⟨h.1,fun j u hj=>by rw [show o+1+j=o+(j+1) by omega];exact h.2 (j+1) u (by simpa using hj)⟩
set_option maxHeartbeats 4000000 in
set_option maxRecDepth 10000 in
theorem small_c {l:List Rule} {Av:Option Addr} {c b o:Nat} {css:Nat→List Value} (hlb:l.length≤9223372036854775807) (hA:l≠[]→Av=some ⟨b,o,none⟩) (hat:∀(i:Nat) (x:Rule),l[i]? = some x→roAt r b (o+i*4) (.string x.name::css i)) (hk:∀(i:Nat) (x:Rule),l[i]? = some x→RoPart r x.body (css i))
  {most:Nat} (hmost:most≤100000) (h:Hp) (hrom:h.rom=r) (hb:h.base≤h.next) :
  ∃v h1,Snd Try.prog 10 [.agg #[.slice Av l.length c],.int .i64 (most:Int)] h v h1∧v=.bool (smallB most l)∧Ext h h1:=by
 refine snd_go wf Try.func10 rfl rfl (n:=46) rfl (by kernel_rfl) rfl ?_
 intro a hn hg
 have hr:Try.f10.results.toList=[.tmp 4]:=rfl
 have g0:=hg 0
 have g1:=hg 1
 clear hg
 simp only [List.getElem?_cons_zero,List.getElem?_cons_succ] at g0 g1
 have hP:=own_new hb 24 [.slice Av l.length c]
 have hx0:=Ext.new h (CObj.cells ⟨[.slice Av l.length c],24,0,0,false⟩)
 have hb1:=Nat.le_succ_of_le (m:=h.next) hb
 simp -dsimp only [go_sem,g0,g1]
 refine loop_go (n:=46) (by kernel_rfl) (fun m' a' h'=>∃i k:Nat,i≤l.length∧m'=l.length - i∧k≤42*(most+1)∧Ext (h.newH (CObj.cells ⟨[.slice Av l.length c],24,0,0,false⟩)) h'∧smallL most (l.drop i) k=smallL most l 0 ∧
  a'.get 1=.int .i64 most∧a'.get 2=.pointer (some ⟨h.next,0,none⟩)∧a'.get 5=.int .i64 k∧a'.get 6=.int .i64 i) ?_ l.length _ _ (by simp -dsimp only [go_sem,hn]) ⟨0,0,Nat.zero_le _,rfl,Nat.zero_le _,Ext.refl _,rfl,by simp -dsimp only [go_sem,g1],by simp -dsimp only [go_sem],by simp -dsimp only [go_sem];rfl,by simp -dsimp only [go_sem];rfl⟩
 rintro m' a' h' hn' ⟨i,k,hi,rfl,hkb,hx,hst,e1,e2,e5,e6⟩
 have hrom':h'.rom=r:=hx.rom.trans hrom
 have hb':h'.base≤h'.next:=by rw [hx.base];exact Nat.le_trans hb1 hx.next
 have hP':=own_ext hx hP
 have k30:decide ((l.length:Int)≤30)=decide (l.length≤30):=by rw [decide_eq_decide];omega
 by_cases hlt:i<l.length
 ·have hpi:l[i]? = some l[i]:=List.getElem?_eq_getElem hlt
  have hi1:decide ((i:Int)<(l.length:Int))=true:=decide_eq_true (Int.ofNat_lt.2 hlt)
  rw [List.drop_eq_getElem_cons hlt,smallL] at hst
  by_cases ck:k≤most
  ·have k4:decide ((k:Int)≤(most:Int))=true:=decide_eq_true (by omega)
   rw [if_pos ck] at hst
   obtain ⟨Av1,c1',hcs⟩:=(hk i _ hpi).shape
   have hat':=hat i _ hpi
   have hkid:=hk i _ hpi
   rw [hcs] at hat' hkid
   have hAv:=hA (ne_nil hlt)
   subst hAv
   have hat2:=roAt_tail hat'
   have hld:h'.load ⟨b,o+i*4,none⟩=some (.string l[i].name):=by
    have:=load_ro hrom' hat' (j:=0) (v:=.string l[i].name) rfl
    simpa using this
   by_cases cn:200<l[i].name.data.toList.length
   ·have k5:decide ((200:Int)<(l[i].name.data.toList.length:Int))=true:=decide_eq_true (by omega)
    rw [if_pos cn] at hst
    simp -dsimp only [go_sem,e1,e2,e5,e6,hi1,k4,load_own hP',ia22 hlt,hld,k5,hr]
    exact ⟨by unfold smallB;rw [←hst],hx0.trans hx⟩
   ·have k5:decide ((200:Int)<(l[i].name.data.toList.length:Int))=false:=decide_eq_false (by omega)
    rw [if_neg cn] at hst
    simp -dsimp only [go_sem,e1,e2,e5,e6,hi1,k4,load_own hP',ia22 hlt,hld,k5,loads_ro (n:=3) hrom' hat2 rfl]
    obtain ⟨_,h2,hs2,rfl,hx2⟩:=parts_c hmost _ l[i].body (Nat.lt_succ_self _) 40 h' _ (by omega) hrom' hb' hkid
    refine ⟨_,h2,hs2,?_⟩
    have hle:=partsB_le most l[i].body 40
    have hwk:IntKind.i64.wrap ((k:Int)+(partsB most 40 l[i].body:Int))=((k+partsB most 40 l[i].body:Nat):Int):=by rw [IntKind.wrap_i64];omega
    simp -dsimp only [go_sem,e1,e2,e5,e6,hwk,wrap64_succ hlt hlb]
    exact ⟨l.length - (i+1),by omega,i+1,_,hlt,rfl,by omega,hx.trans hx2,hst,rfl,rfl⟩
  ·have k4:decide ((k:Int)≤(most:Int))=false:=decide_eq_false (by omega)
   rw [if_neg ck] at hst
   simp -dsimp only [go_sem,undef',e1,e2,e5,e6,hi1,k4,load_own hP',hr]
   exact ⟨by unfold smallB;rw [←hst];simp [ck],hx0.trans hx⟩
 ·have hi0:decide ((i:Int)<(l.length:Int))=false:=decide_eq_false (by omega)
  rw [List.drop_eq_nil_of_le (by omega),smallL] at hst
  by_cases ck:k≤most
  ·have k4:decide ((k:Int)≤(most:Int))=true:=decide_eq_true (by omega)
   simp -dsimp only [go_sem,undef',e1,e2,e5,e6,hi0,k4,load_own hP',k30,hr]
   exact ⟨by unfold smallB;rw [←hst];simp [ck],hx0.trans hx⟩
  ·have k4:decide ((k:Int)≤(most:Int))=false:=decide_eq_false (by omega)
   simp -dsimp only [go_sem,undef',e1,e2,e5,e6,hi0,k4,load_own hP',hr]
   exact ⟨by unfold smallB;rw [←hst];simp [ck],hx0.trans hx⟩
end Go.Ev.G24
end
section
namespace Go.Ev.G24
open Go.RowKit Go.Proofs
mutual
def sameT:Part→Part→Bool
 | ⟨d,t,l⟩,⟨d1,t1,l1⟩=>decide (d.data.toList=d1.data.toList)&&decide (t.data.toList=t1.data.toList)&&decide (l.length=l1.length)&&sameTs l l1
def sameTs:List Part→List Part→Bool
 | x::l,y::m=>sameT x y&&sameTs l m
 | _,_=>true
end
abbrev No:Nat→Prop:=fun _=>False
def SameC (p:Part):Prop:=∀(q:Part) (h:Hp) (cs cs1:List Value),h.base≤h.next→TreeAt h No No p cs→TreeAt h No No q cs1→∃v h1,Snd Try.prog 16 [.agg cs.toArray,.agg cs1.toArray] h v h1∧v=.bool (sameT p q)∧Ext h h1
set_option maxHeartbeats 4000000 in
set_option maxRecDepth 10000 in
theorem same_c:∀(n:Nat) (p:Part),SizeOf.sizeOf p<n→Few p→SameC p:=by
 intro n
 induction n with
 | zero=>exact fun p hp=>absurd hp (Nat.not_lt_zero _)
 | succ n ihn =>
 rintro ⟨d,t,l⟩ hn hfew q h cs cs1 hb hp hq
 cases hfew with
 | mk _ _ _ hl1 hfk =>
 have ih:∀(i:Nat) (p:Part),l[i]? = some p→SameC p:=fun i p hp=>ihn p (by
  have:=List.sizeOf_lt_of_mem (List.mem_of_getElem? hp)
  simp only [Part.mk.sizeOf_spec] at hn
  omega) (hfk i p hp)
 cases hp with
 | mk _ _ _ Av c b o f row css hc hs hA hat hk =>
 cases hq with
 | mk d1 t1 l1 Av1 c1 b1 o1 f1 row1 css1 hc1 hs1 hA1 hat1 hk1 =>
 refine snd_go wf Try.func16 rfl rfl (n:=46) rfl (by kernel_rfl) rfl ?_
 intro a hn hg
 have hr:Try.f16.results.toList=[.tmp 4]:=rfl
 have g0:=hg 0
 have g1:=hg 1
 clear hg
 simp only [List.getElem?_cons_zero,List.getElem?_cons_succ] at g0 g1
 have hP:=own_new hb 31 [.string d,.string t,.slice Av l.length c]
 have hx0:=Ext.new h (CObj.cells ⟨[.string d,.string t,.slice Av l.length c],31,0,0,false⟩)
 have hb0:=Nat.le_succ_of_le (m:=h.next) hb
 have hQ:=own_new (h:=h.newH (CObj.cells ⟨[.string d,.string t,.slice Av l.length c],31,0,0,false⟩)) hb0 31 [.string d1,.string t1,.slice Av1 l1.length c1]
 have hP1:=own_newH hP (CObj.cells ⟨[.string d1,.string t1,.slice Av1 l1.length c1],31,0,0,false⟩)
 have hx1:=hx0.trans (Ext.new _ (CObj.cells ⟨[.string d1,.string t1,.slice Av1 l1.length c1],31,0,0,false⟩))
 simp -dsimp only [go_sem,g0,g1,next_newH]
 simp only [next_newH] at hQ
 generalize (h.newH (CObj.cells ⟨[.string d,.string t,.slice Av l.length c],31,0,0,false⟩)).newH (CObj.cells ⟨[.string d1,.string t1,.slice Av1 l1.length c1],31,0,0,false⟩)=h2 at hQ hP1 hx1 ⊢
 have hb2:h2.base≤h2.next:=by rw [hx1.base];exact Nat.le_trans hb hx1.next
 by_cases cd:d.data.toList=d1.data.toList
 rotate_left
 ·simp -dsimp only [go_sem,undef',load_own hP1,load_own hQ,decide_eq_false cd,hr]
  exact ⟨by simp [sameT,cd],hx1⟩
 by_cases ct:t.data.toList=t1.data.toList
 rotate_left
 ·simp -dsimp only [go_sem,undef',load_own hP1,load_own hQ,decide_eq_true cd,decide_eq_false ct,hr]
  exact ⟨by simp [sameT,ct],hx1⟩
 by_cases cl:l.length=l1.length
 rotate_left
 ·have k0:decide ((l.length:Int)=(l1.length:Int))=false:=decide_eq_false (by omega)
  simp -dsimp only [go_sem,undef',load_own hP1,load_own hQ,decide_eq_true cd,decide_eq_true ct,k0,hr]
  exact ⟨by simp [sameT,cl],hx1⟩
 have k0:decide ((l.length:Int)=(l1.length:Int))=true:=decide_eq_true (by omega)
 have e:sameT ⟨d,t,l⟩ ⟨d1,t1,l1⟩=sameTs l l1:=by simp [sameT,cd,ct,cl]
 simp -dsimp only [go_sem,undef',load_own hP1,load_own hQ,decide_eq_true cd,decide_eq_true ct,k0,hr]
 refine loop_go (n:=46) (by kernel_rfl) (fun m' a' h'=>∃i:Nat,i≤l.length∧m'=l.length - i∧Ext h2 h'∧sameTs (l.drop i) (l1.drop i)=sameTs l l1 ∧
  a'.get 2=.pointer (some ⟨h.next,0,none⟩)∧a'.get 3=.pointer (some ⟨h.next+1,0,none⟩)∧a'.get 5=.int .i64 i) ?_ l.length _ _ (by simp -dsimp only [go_sem,hn]) ⟨0,Nat.zero_le _,rfl,Ext.refl _,rfl,by simp -dsimp only [go_sem],by simp -dsimp only [go_sem],by simp -dsimp only [go_sem];rfl⟩
 rintro m' a' h' hn' ⟨i,hi,rfl,hx,hst,e2,e3,e5⟩
 have hb':h'.base≤h'.next:=by rw [hx.base];exact Nat.le_trans hb2 hx.next
 have hP':=own_ext hx hP1
 have hQ':=own_ext hx hQ
 by_cases hlt:i<l.length
 ·have hpi:l[i]? = some l[i]:=List.getElem?_eq_getElem hlt
  have hlt1:i<l1.length:=by omega
  have hpi1:l1[i]? = some l1[i]:=List.getElem?_eq_getElem hlt1
  have hi1:decide ((i:Int)<(l.length:Int))=true:=decide_eq_true (Int.ofNat_lt.2 hlt)
  obtain ⟨hAv,hRow,_,_⟩:=hA (ne_nil hlt)
  obtain ⟨hAv1,hRow1,_,_⟩:=hA1 (ne_nil hlt1)
  subst hAv hAv1
  have kp:=keepsE (hx1.trans hx)
  have ld0:h'.loads ⟨b,o+i*3,none⟩ 3=some (css i):=by rw [row_loads (kp.rows _ _ _ hRow (fun c=>c) (fun c=>c)),hat i _ hpi]
  have ld1:h'.loads ⟨b1,o1+i*3,none⟩ 3=some (css1 i):=by rw [row_loads (kp.rows _ _ _ hRow1 (fun c=>c) (fun c=>c)),hat1 i _ hpi1]
  have t0:=(hk i _ hpi).keep kp
  have t1':=(hk1 i _ hpi1).keep kp
  obtain ⟨kv,hcs,hkv⟩:=t0.kids
  obtain ⟨kv1,hcs1,hkv1⟩:=t1'.kids
  rw [hcs] at ld0 t0
  rw [hcs1] at ld1 t1'
  obtain ⟨Avk,ck,_,_,_,_,_,rfl,_,hsk,_⟩:=hkv
  obtain ⟨Avk1,ck1,_,_,_,_,_,rfl,_,hsk1,_⟩:=hkv1
  obtain ⟨_,h4,hs4,rfl,hx4⟩:=ih i _ hpi l1[i] h' _ _ hb' t0 t1'
  rw [List.drop_eq_getElem_cons hlt,List.drop_eq_getElem_cons hlt1,sameTs] at hst
  simp -dsimp only [go_sem,e2,e3,e5,hi1,load_own hP',load_own hQ']
  refine Dw_text (n:=46) [[],[0],[],[0,1,2],[0,1,2,3],[],[5],[],[5,6,7],[5,6,7,8],[0,1,2,3,4,5,6,7,8,9],[0,1,2,3,4,5,6,7,8,9,10]] (by simp -dsimp only [go_sem,hn']) (by kernel_rfl) ?_
  simp -dsimp only [go_sem,e2,e3,e5,hi1,load_own hP',load_own hQ',ia29 hlt,ia29 hlt1,ld0,ld1,sameN_sliceA hsk,sameN_sliceA hsk1]
  refine ⟨_,h4,hs4,?_⟩
  simp -dsimp only [go_sem]
  cases hsm:sameT l[i] l1[i] with
  | false =>
    rw [hsm] at hst
    simp -dsimp only [go_sem,hr]
    exact ⟨by rw [e,←hst];rfl,hx1.trans (hx.trans hx4)⟩
  | true =>
    rw [hsm,Bool.true_and] at hst
    simp -dsimp only [go_sem,e2,e3,e5,wrap64_succ hlt (Nat.le_trans hl1 (by decide))]
    exact ⟨l.length - (i+1),by omega,i+1,hlt,rfl,hx.trans hx4,hst,rfl⟩
 ·have hi0:decide ((i:Int)<(l.length:Int))=false:=decide_eq_false (by omega)
  rw [List.drop_eq_nil_of_le (by omega),sameTs] at hst
  ·simp -dsimp only [go_sem,e2,e3,e5,hi0,load_own hP',hr]
   exact ⟨by rw [e,←hst],hx1.trans hx⟩
  ·intro x l2 y m2 h1;cases h1
end Go.Ev.G24
end
section
namespace Go.Ev.G24
open Go.RowKit Go.Proofs
variable {r:Ro}
def findB (s:ByteArray):List ByteArray→Nat→Int
 | [],_ => -1
 | x::l,i=>if x.data.toList=s.data.toList then (i:Int) else findB s l (i+1)
theorem findB_idx (s:ByteArray):∀(l:List ByteArray) (i:Nat),findB s l i=if idxOf l s<l.length then ((i+idxOf l s:Nat):Int) else -1
 | [],i=>by simp [findB]
 | x::l,i=>by
   unfold findB
   have hc:idxOf (x::l) s=if x.data.toList=s.data.toList then 0 else idxOf l s+1:=by
    unfold idxOf
    rw [List.findIdx_cons]
    by_cases c:x.data.toList=s.data.toList<;>simp [c]
   by_cases c:x.data.toList=s.data.toList
   ·rw [if_pos c,hc,if_pos c];simp
   ·rw [if_neg c,findB_idx s l (i+1),hc,if_neg c,List.length_cons]
    by_cases c2:idxOf l s<l.length
    ·rw [if_pos c2,if_pos (by omega)];congr 1;omega
    ·rw [if_neg c2,if_neg (by omega)]
set_option maxHeartbeats 2000000 in
set_option maxRecDepth 10000 in
theorem find_c {l:List Rule} {Av:Option Addr} {c b o:Nat} {css:Nat→List Value} (R:RoRules r l Av c b o css) (s:ByteArray) (h:Hp) (hrom:h.rom=r) (hb:h.base≤h.next) :
  ∃v h1,Snd Try.prog 39 [.agg #[.slice Av l.length c],.string s] h v h1∧v=.int .i64 (findB s (nms l) 0)∧Ext h h1:=by
 refine snd_go wf Try.func39 rfl rfl (n:=22) rfl (by kernel_rfl) rfl ?_
 intro a hn hg
 have hr:Try.f39.results.toList=[.tmp 4]:=rfl
 have g0:=hg 0
 have g1:=hg 1
 clear hg
 simp only [List.getElem?_cons_zero,List.getElem?_cons_succ] at g0 g1
 have hP:=own_new hb 24 [.slice Av l.length c]
 have hx0:=Ext.new h (CObj.cells ⟨[.slice Av l.length c],24,0,0,false⟩)
 have hnl:(nms l).length=l.length:=by simp [nms]
 simp -dsimp only [go_sem,g0]
 generalize h.newH (CObj.cells ⟨[.slice Av l.length c],24,0,0,false⟩)=h2 at hP hx0 ⊢
 refine loop_go (n:=22) (by kernel_rfl) (fun m' a' h'=>∃i:Nat,i≤l.length∧m'=l.length - i∧h'=h2∧findB s ((nms l).drop i) i=findB s (nms l) 0 ∧
  a'.get 1=.string s∧a'.get 2=.pointer (some ⟨h.next,0,none⟩)∧a'.get 5=.int .i64 i) ?_ l.length _ _ (by simp -dsimp only [go_sem,hn]) ⟨0,Nat.zero_le _,rfl,rfl,rfl,by simp -dsimp only [go_sem,g1],by simp -dsimp only [go_sem],by simp -dsimp only [go_sem];rfl⟩
 rintro m' a' h' hn' ⟨i,hi,rfl,hh,hst,e1,e2,e5⟩
 rw [hh]
 by_cases hlt:i<l.length
 ·have hpi:l[i]? = some l[i]:=List.getElem?_eq_getElem hlt
  have hi1:decide ((i:Int)<(l.length:Int))=true:=decide_eq_true (Int.ofNat_lt.2 hlt)
  have hat':=R.hat i _ hpi
  have hAv:=R.hA (ne_nil hlt)
  subst hAv
  have hld:h2.load ⟨b,o+i*4,none⟩=some (.string l[i].name):=by
   have:=load_ro (hx0.rom.trans hrom) hat' (j:=0) (v:=.string l[i].name) rfl
   simpa using this
  have hdr:(nms l).drop i=l[i].name::(nms l).drop (i+1):=by
   rw [List.drop_eq_getElem_cons (by omega)];simp [nms]
  rw [hdr,findB] at hst
  by_cases c2:l[i].name.data.toList=s.data.toList
  ·rw [if_pos c2] at hst
   simp -dsimp only [go_sem,e1,e2,e5,hi1,ia22 hlt,load_own hP,hld,decide_eq_true c2,hr]
   exact ⟨by rw [←hst],hx0⟩
  ·rw [if_neg c2] at hst
   simp -dsimp only [go_sem,e1,e2,e5,hi1,ia22 hlt,load_own hP,hld,decide_eq_false c2,wrap64_succ hlt (Nat.le_trans R.hb (by decide))]
   exact ⟨l.length - (i+1),by omega,i+1,hlt,rfl,hst,rfl⟩
 ·have hi0:decide ((i:Int)<(l.length:Int))=false:=decide_eq_false (by omega)
  rw [List.drop_eq_nil_of_le (by omega),findB] at hst
  simp -dsimp only [go_sem,e1,e2,e5,hi0,load_own hP,hr]
  exact ⟨by rw [←hst],hx0⟩
end Go.Ev.G24
end
section
namespace Go.Ev.G24
open Go.RowKit Go.Proofs
variable {r:Ro}
theorem int_gt0 (n:Nat):decide (0<(n:Int))=decide (1≤n):=by rw [decide_eq_decide];omega
theorem find_ge (s:ByteArray) (l:List ByteArray):decide (0≤findB s l 0)=decide (idxOf l s<l.length):=by
 rw [findB_idx,decide_eq_decide]
 split<;>omega
def RefRightC (r:Ro) (G:List Rule) (Gv:Option Addr) (gc:Nat) (p:Part):Prop:=∀(h:Hp) (cs:List Value),h.rom=r→h.base≤h.next→RoPart r p cs→fits p →
 ∃v h1,Snd Try.prog 69 [.agg #[.slice Gv G.length gc],.agg cs.toArray] h v h1∧v=.bool (rightP (nms G) p)∧Ext h h1
set_option maxHeartbeats 4000000 in
set_option maxRecDepth 10000 in
theorem ref_right_c {G:List Rule} {Gv:Option Addr} {gc gb go:Nat} {gcss:Nat→List Value} (R:RoRules r G Gv gc gb go gcss):∀(n:Nat) (p:Part),SizeOf.sizeOf p<n→RefRightC r G Gv gc p:=by
 intro n
 induction n with
 | zero=>exact fun p hp=>absurd hp (Nat.not_lt_zero _)
 | succ n ihn =>
 rintro ⟨d,t,l⟩ hn h cs hrom hb hp hft
 have ih:∀(i:Nat) (p:Part),l[i]? = some p→RefRightC r G Gv gc p:=fun i p hp=>ihn p (by
  have:=List.sizeOf_lt_of_mem (List.mem_of_getElem? hp)
  simp only [Part.mk.sizeOf_spec] at hn
  omega)
 have hnk:∀(i:Nat) (p:Part),l[i]? = some p→fits p:=fitsL_get hft.2
 cases hp with
 | mk _ _ _ Av c b o css hc hlb hA hat hk hs =>
 refine snd_go wf Try.func69 rfl rfl (n:=84) rfl (by kernel_rfl) rfl ?_
 intro a hn hg
 have hr:Try.f69.results.toList=[.tmp 4]:=rfl
 have g0:=hg 0
 have g1:=hg 1
 clear hg
 simp only [List.getElem?_cons_zero,List.getElem?_cons_succ] at g0 g1
 have hG:=own_new hb 24 [.slice Gv G.length gc]
 have hxg:=Ext.new h (CObj.cells ⟨[.slice Gv G.length gc],24,0,0,false⟩)
 have hbg:=Nat.le_succ_of_le (m:=h.next) hb
 have hP:=own_new (h:=h.newH (CObj.cells ⟨[.slice Gv G.length gc],24,0,0,false⟩)) hbg 52 [.string d,.string t,.slice Av l.length c]
 have hG1:=own_newH hG (CObj.cells ⟨[.string d,.string t,.slice Av l.length c],52,0,0,false⟩)
 have hx0:=hxg.trans (Ext.new _ (CObj.cells ⟨[.string d,.string t,.slice Av l.length c],52,0,0,false⟩))
 have e:rightP (nms G) ⟨d,t,l⟩=(rightL (nms G) l&&kindOk (nms G) d t l.length):=by rw [rightP]
 simp -dsimp only [go_sem,g0,g1,next_newH]
 simp only [next_newH] at hP
 generalize (h.newH (CObj.cells ⟨[.slice Gv G.length gc],24,0,0,false⟩)).newH (CObj.cells ⟨[.string d,.string t,.slice Av l.length c],52,0,0,false⟩)=h2 at hP hG1 hx0 ⊢
 have hb2:h2.base≤h2.next:=by rw [hx0.base];exact Nat.le_trans hb hx0.next
 refine loop_go (n:=84) (by kernel_rfl) (fun m' a' h'=>∃i:Nat,i≤l.length∧m'=l.length - i∧Ext h2 h'∧rightL (nms G) (l.drop i)=rightL (nms G) l ∧
  a'.get 2=.pointer (some ⟨h.next,0,none⟩)∧a'.get 3=.pointer (some ⟨h.next+1,0,none⟩)∧a'.get 5=.int .i64 i) ?_ l.length _ _ (by simp -dsimp only [go_sem,hn]) ⟨0,Nat.zero_le _,rfl,Ext.refl _,rfl,by simp -dsimp only [go_sem],by simp -dsimp only [go_sem],by simp -dsimp only [go_sem];rfl⟩
 rintro m' a' h' hn' ⟨i,hi,rfl,hx,hst,e2,e3,e5⟩
 have hrom':h'.rom=r:=(hx0.trans hx).rom.trans hrom
 have hb':h'.base≤h'.next:=by rw [hx.base];exact Nat.le_trans hb2 hx.next
 have hP':=own_ext hx hP
 have hG':=own_ext hx hG1
 by_cases hlt:i<l.length
 ·have hpi:l[i]? = some l[i]:=List.getElem?_eq_getElem hlt
  have hi1:decide ((i:Int)<(l.length:Int))=true:=decide_eq_true (Int.ofNat_lt.2 hlt)
  obtain ⟨Av1,c1',hcs⟩:=(hk i _ hpi).shape
  have hat':=hat i _ hpi
  have hkid:=hk i _ hpi
  rw [hcs] at hat' hkid
  have hAv:=hA (ne_nil hlt)
  subst hAv
  obtain ⟨_,h4,hs4,rfl,hx4⟩:=ih i _ hpi h' _ hrom' hb' hkid (hnk i _ hpi)
  rw [List.drop_eq_getElem_cons hlt,rightL] at hst
  simp -dsimp only [go_sem,e2,e3,e5,hi1,load_own hP']
  refine Dw_text (n:=84) [[],[],[1],[],[1,2,3],[1,2,3,4],[0,1,2,3,4,5],[0,1,2,3,4,5,6]] (by simp -dsimp only [go_sem,hn']) (by kernel_rfl) ?_
  simp -dsimp only [go_sem,e2,e3,e5,loads_own hG',load_own hP',ia50 hlt,loads_ro (n:=3) hrom' hat' rfl,sameN_sliceA R.hs,sameN_sliceA hkid.same]
  refine ⟨_,h4,hs4,?_⟩
  simp -dsimp only [go_sem]
  cases hsm:rightP (nms G) l[i] with
  | false =>
    rw [hsm,Bool.false_and] at hst
    simp -dsimp only [go_sem,hr]
    exact ⟨by rw [e,←hst];rfl,hx0.trans (hx.trans hx4)⟩
  | true =>
    rw [hsm,Bool.true_and] at hst
    simp -dsimp only [go_sem,e2,e3,e5,wrap64_succ hlt hlb]
    exact ⟨l.length - (i+1),by omega,i+1,hlt,rfl,hx.trans hx4,hst,rfl⟩
 ·have hi0:decide ((i:Int)<(l.length:Int))=false:=decide_eq_false (by omega)
  rw [List.drop_eq_nil_of_le (by omega),rightL] at hst
  rw [←hst,Bool.true_and] at e
  simp -dsimp only [go_sem,e2,e3,e5,hi0,load_own hP']
  have hx9:=hx0.trans hx
  by_cases c1:d.data.toList=[105,115]
  ·by_cases cn:l.length=0
   ·have kn:decide ((l.length:Int)=0)=true:=by rw [int_eq0];exact decide_eq_true cn
    simp -dsimp only [go_sem,decide_eq_true c1,e2,e3,kn,load_own hP',hr]
    refine ⟨_,_,ref_atom_c t hft.1 _,?_⟩
    exact ⟨by rw [e];simp [kindOk,c1,cn],hx9⟩
   ·have kn:decide ((l.length:Int)=0)=false:=by rw [int_eq0];exact decide_eq_false cn
    simp -dsimp only [go_sem,undef',decide_eq_true c1,e2,e3,kn,load_own hP',hr]
    exact ⟨by rw [e];simp [kindOk,c1,cn],hx9⟩
  by_cases c2:d.data.toList=[114,117,108,101]
  ·by_cases cn:l.length=0
   ·have kn:decide ((l.length:Int)=0)=true:=by rw [int_eq0];exact decide_eq_true cn
    simp -dsimp only [go_sem,decide_eq_false c1,decide_eq_true c2,e2,e3,kn,load_own hP',loads_own hG',hr]
    obtain ⟨_,h5,hs5,rfl,hx5⟩:=find_c R t h' hrom' hb'
    refine ⟨_,h5,hs5,?_⟩
    simp -dsimp only [go_sem,find_ge,hr]
    exact ⟨by rw [e];simp [kindOk,c2,cn],hx9.trans hx5⟩
   ·have kn:decide ((l.length:Int)=0)=false:=by rw [int_eq0];exact decide_eq_false cn
    simp -dsimp only [go_sem,undef',decide_eq_false c1,decide_eq_true c2,e2,e3,kn,load_own hP',hr]
    exact ⟨by rw [e];simp [kindOk,c2,cn],hx9⟩
  by_cases c3:d.data.toList=[97,110,121]
  ·by_cases cn:l.length=0
   ·have kn:decide ((l.length:Int)=0)=true:=by rw [int_eq0];exact decide_eq_true cn
    simp -dsimp only [go_sem,decide_eq_false c1,decide_eq_false c2,decide_eq_true c3,e2,e3,kn,load_own hP',hr]
    exact ⟨by rw [e];simp [kindOk,c3,cn],hx9⟩
   ·have kn:decide ((l.length:Int)=0)=false:=by rw [int_eq0];exact decide_eq_false cn
    simp -dsimp only [go_sem,undef',decide_eq_false c1,decide_eq_false c2,decide_eq_true c3,e2,e3,kn,load_own hP',hr]
    exact ⟨by rw [e];simp [kindOk,c3,cn],hx9⟩
  by_cases c4:d.data.toList=[110,111,116,104,105,110,103]
  ·by_cases cn:l.length=0
   ·have kn:decide ((l.length:Int)=0)=true:=by rw [int_eq0];exact decide_eq_true cn
    simp -dsimp only [go_sem,decide_eq_false c1,decide_eq_false c2,decide_eq_false c3,decide_eq_true c4,e2,e3,kn,load_own hP',hr]
    exact ⟨by rw [e];simp [kindOk,c4,cn],hx9⟩
   ·have kn:decide ((l.length:Int)=0)=false:=by rw [int_eq0];exact decide_eq_false cn
    simp -dsimp only [go_sem,undef',decide_eq_false c1,decide_eq_false c2,decide_eq_false c3,decide_eq_true c4,e2,e3,kn,load_own hP',hr]
    exact ⟨by rw [e];simp [kindOk,c4,cn],hx9⟩
  by_cases c5:d.data.toList=[115,101,113]
  ·by_cases cn:1≤l.length
   ·have kn:decide (0<(l.length:Int))=true:=by rw [int_gt0];exact decide_eq_true cn
    simp -dsimp only [go_sem,decide_eq_false c1,decide_eq_false c2,decide_eq_false c3,decide_eq_false c4,decide_eq_true c5,e2,e3,kn,load_own hP',hr]
    exact ⟨by rw [e];simp [kindOk,c5,cn],hx9⟩
   ·have kn:decide (0<(l.length:Int))=false:=by rw [int_gt0];exact decide_eq_false cn
    simp -dsimp only [go_sem,undef',decide_eq_false c1,decide_eq_false c2,decide_eq_false c3,decide_eq_false c4,decide_eq_true c5,e2,e3,kn,load_own hP',hr]
    exact ⟨by rw [e];simp [kindOk,c5,cn],hx9⟩
  by_cases c6:d.data.toList=[111,114]
  ·by_cases cn:1≤l.length
   ·have kn:decide (0<(l.length:Int))=true:=by rw [int_gt0];exact decide_eq_true cn
    simp -dsimp only [go_sem,decide_eq_false c1,decide_eq_false c2,decide_eq_false c3,decide_eq_false c4,decide_eq_false c5,decide_eq_true c6,e2,e3,kn,load_own hP',hr]
    exact ⟨by rw [e];simp [kindOk,c6,cn],hx9⟩
   ·have kn:decide (0<(l.length:Int))=false:=by rw [int_gt0];exact decide_eq_false cn
    simp -dsimp only [go_sem,undef',decide_eq_false c1,decide_eq_false c2,decide_eq_false c3,decide_eq_false c4,decide_eq_false c5,decide_eq_true c6,e2,e3,kn,load_own hP',hr]
    exact ⟨by rw [e];simp [kindOk,c6,cn],hx9⟩
  by_cases c7:d.data.toList=[109,97,110,121]
  ·by_cases cn:l.length=1
   ·have kn:decide ((l.length:Int)=1)=true:=by rw [int_eq1];exact decide_eq_true cn
    simp -dsimp only [go_sem,decide_eq_false c1,decide_eq_false c2,decide_eq_false c3,decide_eq_false c4,decide_eq_false c5,decide_eq_false c6,decide_eq_true c7,e2,e3,kn,load_own hP',hr]
    exact ⟨by rw [e];simp [kindOk,c7,cn],hx9⟩
   ·have kn:decide ((l.length:Int)=1)=false:=by rw [int_eq1];exact decide_eq_false cn
    simp -dsimp only [go_sem,undef',decide_eq_false c1,decide_eq_false c2,decide_eq_false c3,decide_eq_false c4,decide_eq_false c5,decide_eq_false c6,decide_eq_true c7,e2,e3,kn,load_own hP',hr]
    exact ⟨by rw [e];simp [kindOk,c7,cn],hx9⟩
  by_cases c8:d.data.toList=[111,112,116]
  ·by_cases cn:l.length=1
   ·have kn:decide ((l.length:Int)=1)=true:=by rw [int_eq1];exact decide_eq_true cn
    simp -dsimp only [go_sem,decide_eq_false c1,decide_eq_false c2,decide_eq_false c3,decide_eq_false c4,decide_eq_false c5,decide_eq_false c6,decide_eq_false c7,decide_eq_true c8,e2,e3,kn,load_own hP',hr]
    exact ⟨by rw [e];simp [kindOk,c8,cn],hx9⟩
   ·have kn:decide ((l.length:Int)=1)=false:=by rw [int_eq1];exact decide_eq_false cn
    simp -dsimp only [go_sem,undef',decide_eq_false c1,decide_eq_false c2,decide_eq_false c3,decide_eq_false c4,decide_eq_false c5,decide_eq_false c6,decide_eq_false c7,decide_eq_true c8,e2,e3,kn,load_own hP',hr]
    exact ⟨by rw [e];simp [kindOk,c8,cn],hx9⟩
  by_cases c9:d.data.toList=[110,111,116]
  ·by_cases cn:l.length=1
   ·have kn:decide ((l.length:Int)=1)=true:=by rw [int_eq1];exact decide_eq_true cn
    simp -dsimp only [go_sem,decide_eq_false c1,decide_eq_false c2,decide_eq_false c3,decide_eq_false c4,decide_eq_false c5,decide_eq_false c6,decide_eq_false c7,decide_eq_false c8,decide_eq_true c9,e2,e3,kn,load_own hP',hr]
    exact ⟨by rw [e];simp [kindOk,c9,cn],hx9⟩
   ·have kn:decide ((l.length:Int)=1)=false:=by rw [int_eq1];exact decide_eq_false cn
    simp -dsimp only [go_sem,undef',decide_eq_false c1,decide_eq_false c2,decide_eq_false c3,decide_eq_false c4,decide_eq_false c5,decide_eq_false c6,decide_eq_false c7,decide_eq_false c8,decide_eq_true c9,e2,e3,kn,load_own hP',hr]
    exact ⟨by rw [e];simp [kindOk,c9,cn],hx9⟩
  simp -dsimp only [go_sem,decide_eq_false c1,decide_eq_false c2,decide_eq_false c3,decide_eq_false c4,decide_eq_false c5,decide_eq_false c6,decide_eq_false c7,decide_eq_false c8,decide_eq_false c9,e2,e3,load_own hP',hr]
  exact ⟨by rw [e];simp [kindOk,c1,c2,c3,c4,c5,c6,c7,c8,c9],hx9⟩
end Go.Ev.G24
end
section
namespace Go.Ev.G24
open Go.RowKit Go.Proofs
variable {r:Ro}
def refRs (nm:List ByteArray):List Rule→Nat→Bool
 | [],_=>true
 | x::l,i=>(plainB x.name&&(decide (findB x.name nm 0=(i:Int))&&rightP nm x.body))&&refRs nm l (i+1)
def refRightG (l:List Rule):Bool:=refRs (nms l) l 0&&decide (0<l.length)
set_option maxHeartbeats 4000000 in
set_option maxRecDepth 10000 in
theorem ref_Right_c {l:List Rule} {Av:Option Addr} {c b o:Nat} {css:Nat→List Value} (R:RoRules r l Av c b o css) (hft:fitsG l) (h:Hp) (hrom:h.rom=r) (hb:h.base≤h.next) :
  ∃v h1,Snd Try.prog 35 [.agg #[.slice Av l.length c]] h v h1∧v=.bool (refRightG l)∧Ext h h1:=by
 refine snd_go wf Try.func35 rfl rfl (n:=46) rfl (by kernel_rfl) rfl ?_
 intro a hn hg
 have hr:Try.f35.results.toList=[.tmp 2]:=rfl
 have g0:=hg 0
 clear hg
 simp only [List.getElem?_cons_zero,List.getElem?_cons_succ] at g0
 have hP:=own_new hb 24 [.slice Av l.length c]
 have hx0:=Ext.new h (CObj.cells ⟨[.slice Av l.length c],24,0,0,false⟩)
 simp -dsimp only [go_sem,g0]
 generalize h.newH (CObj.cells ⟨[.slice Av l.length c],24,0,0,false⟩)=h2 at hP hx0 ⊢
 have hb2:h2.base≤h2.next:=by rw [hx0.base];exact Nat.le_trans hb hx0.next
 refine loop_go (n:=46) (by kernel_rfl) (fun m' a' h'=>∃i:Nat,i≤l.length∧m'=l.length - i∧Ext h2 h'∧refRs (nms l) (l.drop i) i=refRs (nms l) l 0 ∧
  a'.get 1=.pointer (some ⟨h.next,0,none⟩)∧a'.get 3=.int .i64 i) ?_ l.length _ _ (by simp -dsimp only [go_sem,hn]) ⟨0,Nat.zero_le _,rfl,Ext.refl _,rfl,by simp -dsimp only [go_sem],by simp -dsimp only [go_sem];rfl⟩
 rintro m' a' h' hn' ⟨i,hi,rfl,hx,hst,e1,e3⟩
 have hrom':h'.rom=r:=(hx0.trans hx).rom.trans hrom
 have hb':h'.base≤h'.next:=by rw [hx.base];exact Nat.le_trans hb2 hx.next
 have hP':=own_ext hx hP
 by_cases hlt:i<l.length
 ·have hpi:l[i]? = some l[i]:=List.getElem?_eq_getElem hlt
  have hi1:decide ((i:Int)<(l.length:Int))=true:=decide_eq_true (Int.ofNat_lt.2 hlt)
  obtain ⟨Av1,c1',hcs⟩:=(R.hk i _ hpi).shape
  have hat':=R.hat i _ hpi
  have hkid:=R.hk i _ hpi
  rw [hcs] at hat' hkid
  have hAv:=R.hA (ne_nil hlt)
  subst hAv
  have hat2:=roAt_tail hat'
  have hld:∀{h3:Hp},h3.rom=r→h3.load ⟨b,o+i*4,none⟩=some (.string l[i].name):=by
   intro h3 h3r
   have:=load_ro h3r hat' (j:=0) (v:=.string l[i].name) rfl
   simpa using this
  rw [List.drop_eq_getElem_cons hlt,refRs] at hst
  obtain ⟨_,h4,hs4,rfl,hx4⟩:=find_c R l[i].name h' hrom' hb'
  have hrom4:=hx4.rom.trans hrom'
  have hb4:h4.base≤h4.next:=by rw [hx4.base];exact Nat.le_trans hb' hx4.next
  obtain ⟨_,h5,hs5,rfl,hx5⟩:=ref_right_c R _ l[i].body (Nat.lt_succ_self _) h4 _ hrom4 hb4 hkid (hft i _ hpi).2
  have hP4:=own_ext hx4 hP'
  have hP5:=own_ext hx5 hP4
  have hrom5:=hx5.rom.trans hrom4
  have hpl:=ref_plain_c l[i].name (hft i _ hpi).1 h'
  simp -dsimp only [go_sem,e1,e3,hi1,load_own hP']
  refine Dw_text (n:=46) [[],[0],[],[0,1,2],[0,1,2,3],[0,1,2,3,4],[0,1,2,3,4,5],[0,1,2,3,4,5,6],[0,1,2,3,4,5,6,7],[0,1,2,3,4,5,6,7,8],[0,1,2,3,4,5,6,7,8],[0,1,2,3,4,5,6,7,8,10],[0,1,2,3,4,5,6,7,8],[0,1,2,3,4,5,6,7,8,10,11,12],[0,1,2,3,4,5,6,7,8,10,11,12,13],[0,1,2,3,4,5,6,7,8,10,11,12,13,14],[0,1,2,3,4,5,6,7,8,9,10,11,12,13,14,15],[0,1,2,3,4,5,6,7,8],[0,1,2,3,4,5,6,7,8,9,10,11,12,13,14,15,16,17],[0,1,2,3,4,5,6,7,8,9,10,11,12,13,14,15,16,17,18],[0,1,2,3,4,5,6,7,8,9,10,11,12,13,14,15,16,17,18,19],[0,1,2,3,4,5,6,7,8,9,10,11,12,13,14,15,16,17,18,19,20],[0,1,2,3,4,5,6,7,8,9,10,11,12,13,14,15,16,17,18,19,20],[0,1,2,3,4,5,6,7,8,9,10,11,12,13,14,15,16,17,18,19,20,22],[0,1,2,3,4,5,6,7,8,9,10,11,12,13,14,15,16,17,18,19,20],[0,1,2,3,4,5,6,7,8,9,10,11,12,13,14,15,16,17,18,19,20,22,23,24],[0,1,2,3,4,5,6,7,8,9,10,11,12,13,14,15,16,17,18,19,20,22,23,24,25],[0,1,2,3,4,5,6,7,8,9,10,11,12,13,14,15,16,17,18,19,20,22,23,24,25,26],[0,1,2,3,4,5,6,7,8,9,10,11,12,13,14,15,16,17,18,19,20,21,22,23,24,25,26,27],[0,1,2,3,4,5,6,7,8,9,10,11,12,13,14,15,16,17,18,19,20,21,22,23,24,25,26,27,28],[0,1,2,3,4,5,6,7,8,9,10,11,12,13,14,15,16,17,18,19,20,21,22,23,24,25,26,27,28,29]] (by simp -dsimp only [go_sem,hn']) (by kernel_rfl) ?_
  simp -dsimp only [go_sem,e1,e3,load_own hP',ia22 hlt,hld hrom']
  refine ⟨_,_,hpl,?_⟩
  cases hp1:plainB l[i].name with
  | false =>
    rw [hp1,Bool.false_and,Bool.false_and] at hst
    simp -dsimp only [go_sem,undef',e1,e3,load_own hP',hr]
    exact ⟨by unfold refRightG;rw [←hst];rfl,hx0.trans hx⟩
  | true =>
    rw [hp1,Bool.true_and] at hst
    simp -dsimp only [go_sem,undef',e1,e3,load_own hP',loads_own hP',ia22 hlt,hld hrom',sameN_sliceA R.hs]
    refine ⟨_,h4,hs4,?_⟩
    by_cases hfd:findB l[i].name (nms l) 0=(i:Int)
    ·rw [decide_eq_true hfd,Bool.true_and] at hst
     simp -dsimp only [go_sem,undef',e1,e3,decide_eq_true hfd,load_own hP4,loads_own hP4,load_own hP',loads_own hP',ia22 hlt,loads_ro (n:=3) hrom4 hat2 rfl,sameN_sliceA R.hs,sameN_sliceA hkid.same]
     refine ⟨_,h5,hs5,?_⟩
     cases hrp:rightP (nms l) l[i].body with
     | false =>
       rw [hrp,Bool.false_and] at hst
       simp -dsimp only [go_sem,undef',e1,e3,hr]
       exact ⟨by unfold refRightG;rw [←hst];rfl,hx0.trans (hx.trans (hx4.trans hx5))⟩
     | true =>
       rw [hrp,Bool.true_and] at hst
       simp -dsimp only [go_sem,undef',e1,e3,wrap64_succ hlt (Nat.le_trans R.hb (by decide))]
       exact ⟨l.length - (i+1),by omega,i+1,hlt,rfl,hx.trans (hx4.trans hx5),hst,rfl⟩
    ·rw [decide_eq_false hfd,Bool.false_and,Bool.false_and] at hst
     simp -dsimp only [go_sem,undef',e1,e3,decide_eq_false hfd,hr]
     exact ⟨by unfold refRightG;rw [←hst];rfl,hx0.trans (hx.trans hx4)⟩
 ·have hi0:decide ((i:Int)<(l.length:Int))=false:=decide_eq_false (by omega)
  rw [List.drop_eq_nil_of_le (by omega),refRs] at hst
  have hg:decide (0<(l.length:Int))=decide (0<l.length):=by rw [decide_eq_decide];omega
  simp -dsimp only [go_sem,e1,e3,hi0,load_own hP',hg,hr]
  exact ⟨by unfold refRightG;rw [←hst,Bool.true_and],hx0.trans hx⟩
end Go.Ev.G24
end
section
namespace Go.Ev.G24
open Go.RowKit Go.Proofs
theorem idxOf_app (seen rest:List ByteArray) (n:ByteArray):idxOf (seen++n::rest) n=if idxOf seen n<seen.length then idxOf seen n else seen.length:=by
 unfold idxOf
 rw [List.findIdx_append]
 split
 ·rfl
 ·simp [List.findIdx_cons]
theorem find_here (seen rest:List ByteArray) (n:ByteArray):decide (findB n (seen++n::rest) 0=(seen.length:Int)) = !decide (idxOf seen n<seen.length):=by
 rw [findB_idx,idxOf_app]
 by_cases c:idxOf seen n<seen.length
 ·rw [if_pos c,if_pos (by rw [List.length_append];omega),decide_eq_true c]
  exact decide_eq_false (by omega)
 ·rw [if_neg c,if_pos (by rw [List.length_append,List.length_cons];omega),decide_eq_false c]
  exact decide_eq_true (by omega)
theorem refRs_eq:∀(l:List Rule) (seen:List ByteArray),refRs (seen++nms l) l seen.length=(fresh seen (nms l)&&rightRs (seen++nms l) l)
 | [],seen=>by simp [refRs,nms,fresh,rightRs]
 | x::l,seen=>by
   have ih:=refRs_eq l (seen++[x.name])
   have e:seen++[x.name]++nms l=seen++nms (x::l):=by simp [nms]
   rw [e,List.length_append,List.length_singleton] at ih
   have hf:=find_here seen (nms l) x.name
   have e2:seen++x.name::nms l=seen++nms (x::l):=by simp [nms]
   rw [e2] at hf
   have e3:fresh seen (nms (x::l))=(!decide (idxOf seen x.name<seen.length)&&fresh (seen++[x.name]) (nms l)):=by simp [nms,fresh]
   rw [refRs,rightRs,ih,hf,e3]
   cases plainB x.name<;>cases rightP (seen++nms (x::l)) x.body<;>cases decide (idxOf seen x.name<seen.length)<;>cases fresh (seen++[x.name]) (nms l)<;>simp
theorem refRightG_eq (l:List Rule):refRightG l=rightG l:=by
 have h:=refRs_eq l []
 simp only [List.nil_append,List.length_nil] at h
 have e:decide (0<l.length) = !decide (l.length=0):=by
  cases l<;>simp
 unfold refRightG rightG
 rw [h,e]
 cases fresh [] (nms l)<;>cases decide (l.length=0)<;>simp
end Go.Ev.G24
end
section
namespace Go.Ev.G24
open Go.RowKit Go.Proofs
def itemT (s:ByteArray):Part:=⟨⟨#[105,116,101,109]⟩,s,[]⟩
def ruleT (t:ByteArray) (l:List Part):Part:=⟨⟨#[114,117,108,101]⟩,t,l⟩
def manyT (l:List Part):Part:=⟨⟨#[109,97,110,121]⟩,⟨#[]⟩,l⟩
inductive Task
 | part (p:Part) (q:Nat)
 | seq (l:List Part) (q:Nat) (acc:List Part)
 | alt (l:List Part) (q:Nat)
 | many (p:Part) (q:Nat) (acc:List Part)
abbrev Outc:=Option (List Part×Nat)×Nat×Nat
def bodyOf (G:List Rule) (t:ByteArray):Part:=match G[idxOf (nms G) t]? with
 | some x=>x.body
 | none=>⟨⟨#[]⟩,⟨#[]⟩,[]⟩
def oneO (items:List ByteArray) (w:Option ByteArray) (q:Nat):Outc:=match items[q]? with
 | some s=>if testB w s=true then (some ([itemT s],q+1),1,q) else (none,1,q)
 | none=>(none,1,q)
def plus1 (o:Outc):Outc:=(o.1,o.2.1+1,o.2.2)
def joinO (n f:Nat) (o:Outc):Outc:=(o.1,n+o.2.1,max f o.2.2)
def ruleO (t:ByteArray) (o:Outc):Outc:=(match o.1 with
 | some (ks,e)=>some ([ruleT t ks],e)
 | none=>none,o.2.1+1,o.2.2)
def optO (q:Nat) (o:Outc):Outc:=(match o.1 with
 | some x=>some x
 | none=>some ([],q),o.2.1+1,o.2.2)
def notO (q:Nat) (o:Outc):Outc:=(match o.1 with
 | some _=>none
 | none=>some ([],q),o.2.1+1,o.2.2)
def seqK (rc:Task→Option Outc) (l acc:List Part) (o:Outc):Option Outc:=match o.1 with
 | none=>some (none,o.2.1,o.2.2)
 | some (ks,e)=>(rc (.seq l e (acc++ks))).map (joinO o.2.1 o.2.2)
def altK (rc:Task→Option Outc) (l:List Part) (q:Nat) (o:Outc):Option Outc:=match o.1 with
 | some x=>some (some x,o.2.1,o.2.2)
 | none=>(rc (.alt l q)).map (joinO o.2.1 o.2.2)
def manyK (rc:Task→Option Outc) (x:Part) (q:Nat) (acc:List Part) (o:Outc):Option Outc:=match o.1 with
 | none=>some (some ([manyT acc],q),o.2.1,o.2.2)
 | some (ks,e)=>(rc (.many x e (acc++ks))).map (joinO o.2.1 o.2.2)
def head1 (rc:Task→Option Outc) (f:Part→Task) (l:List Part) (g:Outc→Outc):Option Outc:=match l with
 | x::_=>(rc (f x)).map g
 | []=>none
def stepP (G:List Rule) (items:List ByteArray) (rc:Task→Option Outc) (d t:ByteArray) (l:List Part) (q:Nat):Option Outc :=
 if d.data.toList=[105,115] then some (oneO items (some t) q)
 else if d.data.toList=[97,110,121] then some (oneO items none q)
 else if d.data.toList=[114,117,108,101] then (rc (.part (bodyOf G t) q)).map (ruleO t)
 else if d.data.toList=[115,101,113] then (rc (.seq l q [])).map plus1
 else if d.data.toList=[111,114] then (rc (.alt l q)).map plus1
 else if d.data.toList=[109,97,110,121] then head1 rc (fun x=>.many x q []) l plus1
 else if d.data.toList=[111,112,116] then head1 rc (fun x=>.part x q) l (optO q)
 else if d.data.toList=[110,111,116] then head1 rc (fun x=>.part x q) l (notO q)
 else some (some ([],q),1,0)
def stepT (G:List Rule) (items:List ByteArray) (rc:Task→Option Outc):Task→Option Outc
 | .part ⟨d,t,l⟩ q=>stepP G items rc d t l q
 | .seq [] q acc=>some (some (acc,q),0,0)
 | .seq (x::l) q acc=>(rc (.part x q)).bind (seqK rc l acc)
 | .alt [] q=>some (none,0,0)
 | .alt (x::l) q=>(rc (.part x q)).bind (altK rc l q)
 | .many x q acc=>(rc (.part x q)).bind (manyK rc x q acc)
def run (G:List Rule) (items:List ByteArray):Nat→Task→Option Outc
 | 0,_=>none
 | k+1,t=>stepT G items (run G items k) t
def Le (rc rc':Task→Option Outc):Prop:=∀t o,rc t=some o→rc' t=some o
variable {G:List Rule} {items:List ByteArray} {rc rc':Task→Option Outc}
theorem Le.map (h:Le rc rc') {t:Task} {f:Outc→Outc} {o:Outc} (k:(rc t).map f=some o):(rc' t).map f=some o:=by
 rw [Option.map_eq_some_iff] at k ⊢
 obtain ⟨x,h1,h2⟩:=k
 exact ⟨x,h t x h1,h2⟩
theorem Le.head1 (h:Le rc rc') {f:Part→Task} {l:List Part} {g:Outc→Outc} {o:Outc} (k:head1 rc f l g=some o):head1 rc' f l g=some o:=by
 cases l with
 | nil=>cases k
 | cons x l=>exact h.map k
theorem stepP_le (h:Le rc rc') {d t:ByteArray} {l:List Part} {q:Nat} {o:Outc} (k:stepP G items rc d t l q=some o):stepP G items rc' d t l q=some o:=by
 unfold stepP at k ⊢
 by_cases c1:d.data.toList=[105,115]
 ·rw [if_pos c1] at k ⊢;exact k
 rw [if_neg c1] at k ⊢
 by_cases c2:d.data.toList=[97,110,121]
 ·rw [if_pos c2] at k ⊢;exact k
 rw [if_neg c2] at k ⊢
 by_cases c3:d.data.toList=[114,117,108,101]
 ·rw [if_pos c3] at k ⊢;exact h.map k
 rw [if_neg c3] at k ⊢
 by_cases c4:d.data.toList=[115,101,113]
 ·rw [if_pos c4] at k ⊢;exact h.map k
 rw [if_neg c4] at k ⊢
 by_cases c5:d.data.toList=[111,114]
 ·rw [if_pos c5] at k ⊢;exact h.map k
 rw [if_neg c5] at k ⊢
 by_cases c6:d.data.toList=[109,97,110,121]
 ·rw [if_pos c6] at k ⊢;exact h.head1 k
 rw [if_neg c6] at k ⊢
 by_cases c7:d.data.toList=[111,112,116]
 ·rw [if_pos c7] at k ⊢;exact h.head1 k
 rw [if_neg c7] at k ⊢
 by_cases c8:d.data.toList=[110,111,116]
 ·rw [if_pos c8] at k ⊢;exact h.head1 k
 rw [if_neg c8] at k ⊢
 exact k
theorem Le.bind (h:Le rc rc') {t:Task} {f f':Outc→Option Outc} (hf:∀x o,f x=some o→f' x=some o) {o:Outc} (k:(rc t).bind f=some o):(rc' t).bind f'=some o:=by
 rw [Option.bind_eq_some_iff] at k ⊢
 obtain ⟨x,h1,h2⟩:=k
 exact ⟨x,h t x h1,hf x o h2⟩
theorem seqK_le (h:Le rc rc') {l acc:List Part}:∀x o,seqK rc l acc x=some o→seqK rc' l acc x=some o:=by
 rintro ⟨r,n,f⟩ o k
 unfold seqK at k ⊢
 cases r with
 | none=>exact k
 | some x=>exact h.map k
theorem altK_le (h:Le rc rc') {l:List Part} {q:Nat}:∀x o,altK rc l q x=some o→altK rc' l q x=some o:=by
 rintro ⟨r,n,f⟩ o k
 unfold altK at k ⊢
 cases r with
 | none=>exact h.map k
 | some x=>exact k
theorem manyK_le (h:Le rc rc') {p:Part} {q:Nat} {acc:List Part}:∀x o,manyK rc p q acc x=some o→manyK rc' p q acc x=some o:=by
 rintro ⟨r,n,f⟩ o k
 unfold manyK at k ⊢
 cases r with
 | none=>exact k
 | some x=>exact h.map k
theorem stepT_le (h:Le rc rc'):Le (stepT G items rc) (stepT G items rc'):=by
 intro t o k
 match t with
 | .part ⟨d,t,l⟩ q=>exact stepP_le h k
 | .seq [] q acc=>exact k
 | .seq (x::l) q acc=>exact h.bind (seqK_le h) k
 | .alt [] q=>exact k
 | .alt (x::l) q=>exact h.bind (altK_le h) k
 | .many x q acc=>exact h.bind (manyK_le h) k
theorem run_succ:∀k,Le (run G items k) (run G items (k+1))
 | 0,t,o,h=>by cases h
 | k+1,t,o,h=>stepT_le (run_succ k) t o h
theorem run_le {k k':Nat} (h:k≤k'):Le (run G items k) (run G items k'):=by
 induction h with
 | refl=>exact fun t o h=>h
 | step _ ih=>exact fun t o h=>run_succ _ t o (ih t o h)
theorem run_det {k k':Nat} {t:Task} {o o':Outc} (h:run G items k t=some o) (h':run G items k' t=some o'):o=o':=by
 have h1:=run_le (Nat.le_max_left k k') t o h
 have h2:=run_le (Nat.le_max_right k k') t o' h'
 rw [h1] at h2
 injection h2
def placeT:Task→Nat
 | .part _ q=>q
 | .seq _ q _=>q
 | .alt _ q=>q
 | .many _ q _=>q
def accT:Task→List Part
 | .seq _ _ acc=>acc
 | .many _ _ acc=>acc
 | _=>[]
def Fair (items:List ByteArray) (acc:List Part) (o:Outc):Prop:=o.2.2≤items.length∧match o.1 with
 | some (ks,e)=>e≤items.length∧(acc.length+o.2.1≤100000→(∀p∈acc,Few p)→ks.length≤acc.length+o.2.1∧∀p∈ks,Few p)
 | none=>True
theorem one_fair {w:Option ByteArray} {q:Nat} (hq:q≤items.length):Fair items [] (oneO items w q):=by
 unfold oneO
 split
 ·rename_i s hs
  have:=(List.getElem?_eq_some_iff.1 hs).1
  split
  ·refine ⟨hq,this,fun _ _=>⟨by simp,fun p hp => ?_⟩⟩
   simp at hp
   subst hp
   exact .mk _ _ _ (by simp) (fun i p e=>by simp at e)
  ·exact ⟨hq,trivial⟩
 ·exact ⟨hq,trivial⟩
theorem few_of {d t:ByteArray} {l:List Part} (hl:l.length≤100000) (h:∀p∈l,Few p):Few ⟨d,t,l⟩:=.mk _ _ _ hl (fun i p e=>h p (List.mem_of_getElem? e))
theorem one_pos {w:Option ByteArray} {q:Nat}:(oneO items w q).2.1=1:=by
 unfold oneO
 split
 ·split<;>rfl
 ·rfl
theorem run_pos {k:Nat} {p:Part} {q:Nat} {o:Outc} (h:run G items k (.part p q)=some o):1≤o.2.1:=by
 cases k with
 | zero=>cases h
 | succ k =>
   obtain ⟨d,t,l⟩:=p
   change stepP G items (run G items k) d t l q=some o at h
   have mp:∀{x:Option Outc} {f:Outc→Outc},(∀o,1≤(f o).2.1)→x.map f=some o→1≤o.2.1:=by
    intro x f hf hx
    rw [Option.map_eq_some_iff] at hx
    obtain ⟨y,_,rfl⟩:=hx
    exact hf y
   have hd:∀{f:Part→Task} {g:Outc→Outc},(∀o,1≤(g o).2.1)→head1 (run G items k) f l g=some o→1≤o.2.1:=by
    intro f g hg hx
    cases l with
    | nil=>cases hx
    | cons x l=>exact mp hg hx
   unfold stepP at h
   split at h
   ·injection h with h;subst h;exact Nat.le_of_eq one_pos.symm
   split at h
   ·injection h with h;subst h;exact Nat.le_of_eq one_pos.symm
   split at h
   ·exact mp (fun o=>Nat.le_add_left _ _) h
   split at h
   ·exact mp (fun o=>Nat.le_add_left _ _) h
   split at h
   ·exact mp (fun o=>Nat.le_add_left _ _) h
   split at h
   ·exact hd (fun o=>Nat.le_add_left _ _) h
   split at h
   ·exact hd (fun o=>Nat.le_add_left _ _) h
   split at h
   ·exact hd (fun o=>Nat.le_add_left _ _) h
   injection h with h
   subst h
   exact Nat.le_refl _
theorem run_fair:∀(k:Nat) (t:Task) (o:Outc),placeT t≤items.length→run G items k t=some o→Fair items (accT t) o
 | 0,t,o,_,h=>by cases h
 | k+1,t,o,hq,h=>by
   have ih:=run_fair k
   match t,hq,h with
   | .part ⟨d,t,l⟩ q,hq,h =>
     change stepP G items (run G items k) d t l q=some o at h
     show Fair items [] o
     unfold stepP at h
     by_cases c1:d.data.toList=[105,115]
     ·rw [if_pos c1] at h;injection h with h;subst h;exact one_fair hq
     rw [if_neg c1] at h
     by_cases c2:d.data.toList=[97,110,121]
     ·rw [if_pos c2] at h;injection h with h;subst h;exact one_fair hq
     rw [if_neg c2] at h
     by_cases c3:d.data.toList=[114,117,108,101]
     ·rw [if_pos c3,Option.map_eq_some_iff] at h
      obtain ⟨⟨r,n,f⟩,h1,rfl⟩:=h
      have:=ih (.part _ q) _ (show q≤items.length from hq) h1
      cases r with
      | none=>exact this
      | some x =>
        obtain ⟨ks,e⟩:=x
        obtain ⟨a1,a2,a3⟩:=this
        refine ⟨a1,a2,fun b1 b2=>⟨by simp [ruleO],fun p hp => ?_⟩⟩
        simp at hp
        subst hp
        obtain ⟨b3,b4⟩:=a3 (by simp [ruleO,accT] at b1 ⊢;omega) b2
        exact few_of (by simp [ruleO,accT] at b1 b3 ⊢;omega) b4
     rw [if_neg c3] at h
     have plus:∀{t':Task},placeT t'=q→accT t'=[]→((run G items k) t').map plus1=some o→Fair items [] o:=by
      intro t' e1 e2 h
      rw [Option.map_eq_some_iff] at h
      obtain ⟨⟨r,n,f⟩,h1,rfl⟩:=h
      have:=ih _ _ (by rw [e1];exact hq) h1
      rw [e2] at this
      cases r with
      | none=>exact this
      | some x =>
        obtain ⟨ks,e⟩:=x
        obtain ⟨a1,a2,a3⟩:=this
        refine ⟨a1,a2,fun b1 b2 => ?_⟩
        obtain ⟨b3,b4⟩:=a3 (by simp [plus1] at b1 ⊢;omega) b2
        exact ⟨by simp [plus1] at b3 ⊢;omega,b4⟩
     by_cases c4:d.data.toList=[115,101,113]
     ·rw [if_pos c4] at h;exact plus rfl rfl h
     rw [if_neg c4] at h
     by_cases c5:d.data.toList=[111,114]
     ·rw [if_pos c5] at h;exact plus rfl rfl h
     rw [if_neg c5] at h
     by_cases c6:d.data.toList=[109,97,110,121]
     ·rw [if_pos c6] at h
      cases l with
      | nil=>cases h
      | cons x l=>exact plus rfl rfl h
     rw [if_neg c6] at h
     by_cases c7:d.data.toList=[111,112,116]
     ·rw [if_pos c7] at h
      cases l with
      | nil=>cases h
      | cons x l =>
        simp only [head1] at h
        rw [Option.map_eq_some_iff] at h
        obtain ⟨⟨r,n,f⟩,h1,rfl⟩:=h
        have:=ih (.part _ q) _ (show q≤items.length from hq) h1
        cases r with
        | none=>exact ⟨this.1,hq,fun _ _=>⟨by simp,fun p hp=>by simp at hp⟩⟩
        | some x =>
          obtain ⟨ks,e⟩:=x
          obtain ⟨a1,a2,a3⟩:=this
          refine ⟨a1,a2,fun b1 b2 => ?_⟩
          obtain ⟨b3,b4⟩:=a3 (by simp [optO,accT] at b1 ⊢;omega) b2
          exact ⟨by simp [optO,accT] at b3 ⊢;omega,b4⟩
     rw [if_neg c7] at h
     by_cases c8:d.data.toList=[110,111,116]
     ·rw [if_pos c8] at h
      cases l with
      | nil=>cases h
      | cons x l =>
        simp only [head1] at h
        rw [Option.map_eq_some_iff] at h
        obtain ⟨⟨r,n,f⟩,h1,rfl⟩:=h
        have:=ih (.part _ q) _ (show q≤items.length from hq) h1
        cases r with
        | none=>exact ⟨this.1,hq,fun _ _=>⟨by simp,fun p hp=>by simp at hp⟩⟩
        | some x=>exact ⟨this.1,trivial⟩
     rw [if_neg c8] at h
     injection h with h
     subst h
     exact ⟨Nat.zero_le _,hq,fun _ _=>⟨by simp,fun p hp=>by simp at hp⟩⟩
   | .seq [] q acc,hq,h =>
     change some (some (acc,q),0,0)=some o at h
     injection h with h
     subst h
     exact ⟨Nat.zero_le _,hq,fun _ b=>⟨by simp [accT],b⟩⟩
   | .seq (x::l) q acc,hq,h =>
     change ((run G items k) (.part x q)).bind (seqK (run G items k) l acc)=some o at h
     rw [Option.bind_eq_some_iff] at h
     obtain ⟨⟨r,n,f⟩,h1,h2⟩:=h
     have f1:=ih (.part _ q) _ (show q≤items.length from hq) h1
     cases r with
     | none =>
       simp only [seqK] at h2
       injection h2 with h2
       subst h2
       exact ⟨f1.1,trivial⟩
     | some y =>
       obtain ⟨ks,e⟩:=y
       simp only [seqK] at h2
       rw [Option.map_eq_some_iff] at h2
       obtain ⟨⟨r',n',f'⟩,h3,rfl⟩:=h2
       obtain ⟨a1,a2,a3⟩:=f1
       have f2:=ih _ _ (show placeT (.seq l e (acc++ks))≤_ from a2) h3
       refine ⟨Nat.max_le.2 ⟨a1,f2.1⟩,?_⟩
       cases r' with
       | none=>trivial
       | some z =>
         obtain ⟨ks',e'⟩:=z
         obtain ⟨b1,b2,b3⟩:=f2
         refine ⟨b2,fun d1 d2 => ?_⟩
         simp only [accT,joinO,List.length_append,List.length_nil] at d1 d2 a3 b3 ⊢
         obtain ⟨x1,x2⟩:=a3 (by omega) (fun p hp=>by simp at hp)
         obtain ⟨y1,y2⟩:=b3 (by omega) (fun p hp=>by
          rcases List.mem_append.1 hp with hp|hp
          ·exact d2 p hp
          ·exact x2 p hp)
         exact ⟨by omega,y2⟩
   | .alt [] q,hq,h =>
     change some (none,0,0)=some o at h
     injection h with h
     subst h
     exact ⟨Nat.zero_le _,trivial⟩
   | .alt (x::l) q,hq,h =>
     change ((run G items k) (.part x q)).bind (altK (run G items k) l q)=some o at h
     rw [Option.bind_eq_some_iff] at h
     obtain ⟨⟨r,n,f⟩,h1,h2⟩:=h
     have f1:=ih (.part _ q) _ (show q≤items.length from hq) h1
     cases r with
     | some y =>
       simp only [altK] at h2
       injection h2 with h2
       subst h2
       exact f1
     | none =>
       simp only [altK] at h2
       rw [Option.map_eq_some_iff] at h2
       obtain ⟨⟨r',n',f'⟩,h3,rfl⟩:=h2
       have f2:=ih _ _ (show placeT (.alt l q)≤_ from hq) h3
       refine ⟨Nat.max_le.2 ⟨f1.1,f2.1⟩,?_⟩
       cases r' with
       | none=>trivial
       | some z =>
         obtain ⟨ks',e'⟩:=z
         obtain ⟨b1,b2,b3⟩:=f2
         refine ⟨b2,fun d1 d2 => ?_⟩
         simp only [accT,joinO,List.length_nil] at d1 d2 b3 ⊢
         obtain ⟨y1,y2⟩:=b3 (by omega) d2
         exact ⟨by omega,y2⟩
   | .many x q acc,hq,h =>
     change ((run G items k) (.part x q)).bind (manyK (run G items k) x q acc)=some o at h
     rw [Option.bind_eq_some_iff] at h
     obtain ⟨⟨r,n,f⟩,h1,h2⟩:=h
     have f1:=ih (.part _ q) _ (show q≤items.length from hq) h1
     cases r with
     | none =>
       simp only [manyK] at h2
       injection h2 with h2
       subst h2
       have hn1:1≤n:=run_pos h1
       refine ⟨f1.1,hq,fun d1 d2=>⟨by simp [accT];omega,fun p hp => ?_⟩⟩
       simp only [List.mem_singleton] at hp
       subst hp
       simp only [accT] at d1 d2
       exact few_of (by omega) d2
     | some y =>
       obtain ⟨ks,e⟩:=y
       simp only [manyK] at h2
       rw [Option.map_eq_some_iff] at h2
       obtain ⟨⟨r',n',f'⟩,h3,rfl⟩:=h2
       obtain ⟨a1,a2,a3⟩:=f1
       have f2:=ih _ _ (show placeT (.many x e (acc++ks))≤_ from a2) h3
       refine ⟨Nat.max_le.2 ⟨a1,f2.1⟩,?_⟩
       cases r' with
       | none=>trivial
       | some z =>
         obtain ⟨ks',e'⟩:=z
         obtain ⟨b1,b2,b3⟩:=f2
         refine ⟨b2,fun d1 d2 => ?_⟩
         simp only [accT,joinO,List.length_append,List.length_nil] at d1 d2 a3 b3 ⊢
         obtain ⟨x1,x2⟩:=a3 (by omega) (fun p hp=>by simp at hp)
         obtain ⟨y1,y2⟩:=b3 (by omega) (fun p hp=>by
          rcases List.mem_append.1 hp with hp|hp
          ·exact d2 p hp
          ·exact x2 p hp)
         exact ⟨by omega,y2⟩
end Go.Ev.G24
end
section
namespace Go.Ev.G24
open Go.RowKit Go.Proofs
variable {r:Ro}
def EmptyC (r:Ro) (G:List Rule) (Gv:Option Addr) (gc eb:Nat) (em:List Bool) (p:Part):Prop:=∀(h:Hp) (cs:List Value),h.rom=r→h.base≤h.next→h.own eb 4 (em.map .bool)→RoPart r p cs→named (nms G) p →
 ∃v h1,Snd Try.prog 84 [.agg #[.slice Gv G.length gc],.slice (some ⟨eb,0,none⟩) G.length G.length,.agg cs.toArray] h v h1∧v=.bool (mayB (emf (nms G) em) p)∧Ext h h1
set_option maxHeartbeats 4000000 in
set_option maxRecDepth 10000 in
theorem empty_c {G:List Rule} {Gv:Option Addr} {gc gb go eb:Nat} {gcss:Nat→List Value} (R:RoRules r G Gv gc gb go gcss) {em:List Bool} (hel:em.length=G.length):∀(n:Nat) (p:Part),SizeOf.sizeOf p<n→EmptyC r G Gv gc eb em p:=by
 intro n
 induction n with
 | zero=>exact fun p hp=>absurd hp (Nat.not_lt_zero _)
 | succ n ihn =>
 rintro ⟨d,t,l⟩ hn h cs hrom hb hE hp hnm
 have ih:∀(i:Nat) (p:Part),l[i]? = some p→EmptyC r G Gv gc eb em p:=fun i p hp=>ihn p (by
  have:=List.sizeOf_lt_of_mem (List.mem_of_getElem? hp)
  simp only [Part.mk.sizeOf_spec] at hn
  omega)
 have hnk:∀(i:Nat) (p:Part),l[i]? = some p→named (nms G) p:=namedL_get hnm.2.2
 have hGl:(nms G).length=G.length:=by simp [nms]
 cases hp with
 | mk _ _ _ Av c b o css hc hlb hA hat hk hs =>
 refine snd_go wf Try.func84 rfl rfl (n:=58) rfl (by kernel_rfl) rfl ?_
 intro a hn hg
 have hr:Try.f84.results.toList=[.tmp 6]:=rfl
 have g0:=hg 0
 have g1:=hg 1
 have g2:=hg 2
 clear hg
 simp only [List.getElem?_cons_zero,List.getElem?_cons_succ] at g0 g1 g2
 have hG:=own_new hb 24 [.slice Gv G.length gc]
 have hxg:=Ext.new h (CObj.cells ⟨[.slice Gv G.length gc],24,0,0,false⟩)
 have hbg:=Nat.le_succ_of_le (m:=h.next) hb
 have hP:=own_new (h:=h.newH (CObj.cells ⟨[.slice Gv G.length gc],24,0,0,false⟩)) hbg 52 [.string d,.string t,.slice Av l.length c]
 have hG1:=own_newH hG (CObj.cells ⟨[.string d,.string t,.slice Av l.length c],52,0,0,false⟩)
 have hx0:=hxg.trans (Ext.new _ (CObj.cells ⟨[.string d,.string t,.slice Av l.length c],52,0,0,false⟩))
 simp -dsimp only [go_sem,g0,g1,g2,next_newH]
 simp only [next_newH] at hP
 generalize (h.newH (CObj.cells ⟨[.slice Gv G.length gc],24,0,0,false⟩)).newH (CObj.cells ⟨[.string d,.string t,.slice Av l.length c],52,0,0,false⟩)=h2 at hP hG1 hx0 ⊢
 have hb2:h2.base≤h2.next:=by rw [hx0.base];exact Nat.le_trans hb hx0.next
 simp -dsimp only [go_sem,load_own hP]
 by_cases c1:d.data.toList=[105,115]
 ·simp -dsimp only [go_sem,decide_eq_true c1,hr]
  exact ⟨by unfold mayB;rw [if_pos c1],hx0⟩
 by_cases c2:d.data.toList=[97,110,121]
 ·simp -dsimp only [go_sem,decide_eq_false c1,decide_eq_true c2,hr]
  exact ⟨by unfold mayB;rw [if_neg c1,if_pos c2],hx0⟩
 by_cases c3:d.data.toList=[114,117,108,101]
 ·have hidx:idxOf (nms G) t<(nms G).length:=hnm.1 c3
  have hidx2:idxOf (nms G) t<em.length:=by omega
  have hem:(em.map Value.bool)[idxOf (nms G) t]? = some (.bool (emf (nms G) em t)):=by
   simp only [List.getElem?_map,emf,List.getD_eq_getElem?_getD,List.getElem?_eq_getElem hidx2,Option.map_some,Option.getD_some]
  simp -dsimp only [go_sem,g1,decide_eq_false c1,decide_eq_false c2,decide_eq_true c3,loads_own hG1,load_own hP,hr]
  obtain ⟨_,h5,hs5,rfl,hx5⟩:=find_c R t h2 (hx0.rom.trans hrom) hb2
  refine ⟨_,h5,hs5,?_⟩
  have hE5:=own_ext (hx0.trans hx5) hE
  have hfi:findB t (nms G) 0=((idxOf (nms G) t:Nat):Int):=by rw [findB_idx,if_pos hidx,Nat.zero_add]
  rw [hGl] at hidx
  simp -dsimp only [go_sem,g1,hfi,ia105 hidx,load_own hE5,hem,hr]
  exact ⟨by unfold mayB;rw [if_neg c1,if_neg c2,if_pos c3],hx0.trans hx5⟩
 by_cases c4:d.data.toList=[115,101,113]
 ·have e:mayB (emf (nms G) em) ⟨d,t,l⟩=mayAll (emf (nms G) em) l:=by unfold mayB;rw [if_neg c1,if_neg c2,if_neg c3,if_pos c4]
  simp -dsimp only [go_sem,decide_eq_false c1,decide_eq_false c2,decide_eq_false c3,decide_eq_true c4,hr]
  refine loop_go (n:=58) (by kernel_rfl) (fun m' a' h'=>∃i:Nat,i≤l.length∧m'=l.length - i∧Ext h2 h'∧a'.get 1=.slice (some ⟨eb,0,none⟩) G.length G.length∧a'.get 3=.pointer (some ⟨h.next,0,none⟩)∧a'.get 5=.pointer (some ⟨h.next+1,0,none⟩)∧a'.get 7=.int .i64 i∧∀(j:Nat) (p:Part),j<i→l[j]? = some p→mayB (emf (nms G) em) p=true) ?_ l.length _ _ (by simp -dsimp only [go_sem,hn]) ⟨0,Nat.zero_le _,rfl,Ext.refl _,by simp -dsimp only [go_sem,g1],by simp -dsimp only [go_sem],by simp -dsimp only [go_sem],by simp -dsimp only [go_sem];rfl,fun j p hj=>absurd hj (Nat.not_lt_zero _)⟩
  rintro m' a' h' hn' ⟨i,hi,rfl,hx,e1,e3,e5,e7,hall⟩
  have hrom':h'.rom=r:=(hx0.trans hx).rom.trans hrom
  have hb':h'.base≤h'.next:=by rw [hx.base];exact Nat.le_trans hb2 hx.next
  have hP':=own_ext hx hP
  have hG':=own_ext hx hG1
  by_cases hlt:i<l.length
  ·have hpi:l[i]? = some l[i]:=List.getElem?_eq_getElem hlt
   have hi1:decide ((i:Int)<(l.length:Int))=true:=decide_eq_true (Int.ofNat_lt.2 hlt)
   obtain ⟨Av1,c1',hcs⟩:=(hk i _ hpi).shape
   have hat':=hat i _ hpi
   have hkid:=hk i _ hpi
   rw [hcs] at hat' hkid
   have hAv:=hA (ne_nil hlt)
   subst hAv
   obtain ⟨_,h4,hs4,rfl,hx4⟩:=ih i _ hpi h' _ hrom' hb' (own_ext (hx0.trans hx) hE) hkid (hnk i _ hpi)
   simp -dsimp only [go_sem,e1,e3,e5,e7,hi1,load_own hP']
   refine Dw_text (n:=58) [[],[],[],[2],[],[2,3,4],[2,3,4,5],[0,1,2,3,4,5,6],[0,1,2,3,4,5,6,7]] (by simp -dsimp only [go_sem,hn']) (by kernel_rfl) ?_
   simp -dsimp only [go_sem,e1,e3,e5,e7,loads_own hG',load_own hP',ia50 hlt,loads_ro (n:=3) hrom' hat' rfl,sameN_sliceA R.hs,sameN_sliceA hkid.same]
   refine ⟨_,h4,hs4,?_⟩
   simp -dsimp only [go_sem]
   cases hsm:mayB (emf (nms G) em) l[i] with
   | false =>
     simp -dsimp only [go_sem,hr]
     refine ⟨?_,hx0.trans (hx.trans hx4)⟩
     rw [e]
     cases hq:mayAll (emf (nms G) em) l with
     | false=>rfl
     | true=>rw [(mayAll_iff _ l).1 hq i _ hpi] at hsm;cases hsm
   | true =>
     simp -dsimp only [go_sem,e1,e3,e5,e7,wrap64_succ hlt hlb]
     refine ⟨l.length - (i+1),by omega,i+1,hlt,rfl,hx.trans hx4,rfl,fun j p hj hp => ?_⟩
     rcases Nat.lt_succ_iff_lt_or_eq.1 hj with h|h
     ·exact hall j p h hp
     ·subst h;rw [hpi] at hp;injection hp with hp;subst hp;exact hsm
  ·have hi0:decide ((i:Int)<(l.length:Int))=false:=decide_eq_false (by omega)
   have hall':mayAll (emf (nms G) em) l=true:=(mayAll_iff _ l).2 fun j p hp=>hall j p (by have:=(List.getElem?_eq_some_iff.1 hp).1;omega) hp
   simp -dsimp only [go_sem,e5,e7,hi0,load_own hP',hr]
   exact ⟨by rw [e,hall'],hx0.trans hx⟩
 by_cases c5:d.data.toList=[111,114]
 ·have e:mayB (emf (nms G) em) ⟨d,t,l⟩=mayAny (emf (nms G) em) l:=by unfold mayB;rw [if_neg c1,if_neg c2,if_neg c3,if_neg c4,if_pos c5]
  simp -dsimp only [go_sem,decide_eq_false c1,decide_eq_false c2,decide_eq_false c3,decide_eq_false c4,decide_eq_true c5,hr]
  refine loop_go (n:=58) (by kernel_rfl) (fun m' a' h'=>∃i:Nat,i≤l.length∧m'=l.length - i∧Ext h2 h'∧a'.get 1=.slice (some ⟨eb,0,none⟩) G.length G.length∧a'.get 3=.pointer (some ⟨h.next,0,none⟩)∧a'.get 5=.pointer (some ⟨h.next+1,0,none⟩)∧a'.get 8=.int .i64 i∧∀(j:Nat) (p:Part),j<i→l[j]? = some p→mayB (emf (nms G) em) p=false) ?_ l.length _ _ (by simp -dsimp only [go_sem,hn]) ⟨0,Nat.zero_le _,rfl,Ext.refl _,by simp -dsimp only [go_sem,g1],by simp -dsimp only [go_sem],by simp -dsimp only [go_sem],by simp -dsimp only [go_sem];rfl,fun j p hj=>absurd hj (Nat.not_lt_zero _)⟩
  rintro m' a' h' hn' ⟨i,hi,rfl,hx,e1,e3,e5,e7,hall⟩
  have hrom':h'.rom=r:=(hx0.trans hx).rom.trans hrom
  have hb':h'.base≤h'.next:=by rw [hx.base];exact Nat.le_trans hb2 hx.next
  have hP':=own_ext hx hP
  have hG':=own_ext hx hG1
  by_cases hlt:i<l.length
  ·have hpi:l[i]? = some l[i]:=List.getElem?_eq_getElem hlt
   have hi1:decide ((i:Int)<(l.length:Int))=true:=decide_eq_true (Int.ofNat_lt.2 hlt)
   obtain ⟨Av1,c1',hcs⟩:=(hk i _ hpi).shape
   have hat':=hat i _ hpi
   have hkid:=hk i _ hpi
   rw [hcs] at hat' hkid
   have hAv:=hA (ne_nil hlt)
   subst hAv
   obtain ⟨_,h4,hs4,rfl,hx4⟩:=ih i _ hpi h' _ hrom' hb' (own_ext (hx0.trans hx) hE) hkid (hnk i _ hpi)
   simp -dsimp only [go_sem,e1,e3,e5,e7,hi1,load_own hP']
   refine Dw_text (n:=58) [[],[],[],[2],[],[2,3,4],[2,3,4,5],[0,1,2,3,4,5,6]] (by simp -dsimp only [go_sem,hn']) (by kernel_rfl) ?_
   simp -dsimp only [go_sem,e1,e3,e5,e7,loads_own hG',load_own hP',ia50 hlt,loads_ro (n:=3) hrom' hat' rfl,sameN_sliceA R.hs,sameN_sliceA hkid.same]
   refine ⟨_,h4,hs4,?_⟩
   simp -dsimp only [go_sem]
   cases hsm:mayB (emf (nms G) em) l[i] with
   | true =>
     simp -dsimp only [go_sem,hr]
     refine ⟨?_,hx0.trans (hx.trans hx4)⟩
     rw [e]
     cases hq:mayAny (emf (nms G) em) l with
     | true=>rfl
     | false=>rw [(mayAny_iff _ l).1 hq i _ hpi] at hsm;cases hsm
   | false =>
     simp -dsimp only [go_sem,e1,e3,e5,e7,wrap64_succ hlt hlb]
     refine ⟨l.length - (i+1),by omega,i+1,hlt,rfl,hx.trans hx4,rfl,fun j p hj hp => ?_⟩
     rcases Nat.lt_succ_iff_lt_or_eq.1 hj with h|h
     ·exact hall j p h hp
     ·subst h;rw [hpi] at hp;injection hp with hp;subst hp;exact hsm
  ·have hi0:decide ((i:Int)<(l.length:Int))=false:=decide_eq_false (by omega)
   have hall':mayAny (emf (nms G) em) l=false:=(mayAny_iff _ l).2 fun j p hp=>hall j p (by have:=(List.getElem?_eq_some_iff.1 hp).1;omega) hp
   simp -dsimp only [go_sem,e5,e7,hi0,load_own hP',hr]
   exact ⟨by rw [e,hall'],hx0.trans hx⟩
 simp -dsimp only [go_sem,decide_eq_false c1,decide_eq_false c2,decide_eq_false c3,decide_eq_false c4,decide_eq_false c5,hr]
 exact ⟨by unfold mayB;rw [if_neg c1,if_neg c2,if_neg c3,if_neg c4,if_neg c5],hx0⟩
end Go.Ev.G24
end
section
namespace Go.Ev.G24
open Go.RowKit Go.Proofs
variable {r:Ro}
set_option maxHeartbeats 4000000 in
set_option maxRecDepth 10000 in
theorem empties_pass {l:List Rule} {Av:Option Addr} {c b o gp eb:Nat} {css:Nat→List Value} (R:RoRules r l Av c b o css) (hnm:∀(i:Nat) (x:Rule),l[i]? = some x→named (nms l) x.body)
  {a:Ev.A} {h:Hp} {em:List Bool} {Q:Ex→Ev.A→Hp→Prop} (hn:a.n=37) (hrom:h.rom=r) (hb:h.base≤h.next) (hP:h.own gp 24 [.slice Av l.length c]) (hE:h.own eb 4 (em.map .bool)) (hel:em.length=l.length)
  (g1:a.get 1=.pointer (some ⟨gp,0,none⟩)) (g3:a.get 3=.slice (some ⟨eb,0,none⟩) l.length l.length) (g4:a.get 4=.bool false) (g5:a.get 5=.int .i64 0)
  (hq:∀a1 h1 em1 ag,a1.n=37→ExtS (Only eb) h h1→h1.own eb 4 (em1.map .bool)→em1.length=l.length→passB (nms l) (l.map (·.body)) 0 em=em1→a1.get 1=.pointer (some ⟨gp,0,none⟩)→a1.get 3=.slice (some ⟨eb,0,none⟩) l.length l.length→a1.get 4=.bool ag→(if ag=true then cf em1<cf em else em1=em)→Q (.exit 2) a1 h1) :
  Th Try.prog (bodyAt Try.f58 [1,1,0,1,0,0,1,0,1,1,0]) a h Q ⟨⟩ ⟨⟩:=by
 simp only [bodyAt,nav,Try.f58]
 have hne:gp≠eb:=by
  intro e;have:=hP.2.2;rw [e,hE.2.2] at this;simp at this
 refine loop_go (n:=37) (by kernel_rfl) (fun m' a' h'=>∃(i:Nat) (em':List Bool) (ag:Bool),i≤l.length∧m'=l.length - i∧ExtS (Only eb) h h'∧h'.own eb 4 (em'.map .bool)∧em'.length=l.length∧passB (nms l) ((l.drop i).map (·.body)) i em'=passB (nms l) (l.map (·.body)) 0 em∧(if ag=true then cf em'<cf em else em'=em) ∧
  a'.get 1=.pointer (some ⟨gp,0,none⟩)∧a'.get 3=.slice (some ⟨eb,0,none⟩) l.length l.length∧a'.get 4=.bool ag∧a'.get 5=.int .i64 i) ?_ l.length _ _ hn ⟨0,em,false,Nat.zero_le _,rfl,(Ext.refl _).toS,hE,hel,by rw [List.drop_zero],rfl,g1,g3,g4,g5⟩
 rintro m' a' h' hn' ⟨i,em',ag,hi,rfl,hx,hE',hel',hps,hag,e1,e3,e4,e5⟩
 have hrom':h'.rom=r:=ext_rom hx hrom
 have hb':h'.base≤h'.next:=ext_bn hx hb
 have hP':=own_extS hx hP hne
 by_cases hlt:i<l.length
 ·have hpi:l[i]? = some l[i]:=List.getElem?_eq_getElem hlt
  have hi1:decide ((i:Int)<(l.length:Int))=true:=decide_eq_true (Int.ofNat_lt.2 hlt)
  obtain ⟨Av1,c1',hcs⟩:=(R.hk i _ hpi).shape
  have hat':=R.hat i _ hpi
  have hkid:=R.hk i _ hpi
  rw [hcs] at hat' hkid
  have hat2:=roAt_tail hat'
  have hAv:=R.hA (ne_nil hlt)
  subst hAv
  have hil:i<em'.length:=by rw [hel'];exact hlt
  have hdr:(l.drop i).map (·.body)=l[i].body::(l.drop (i+1)).map (·.body):=by
   rw [List.drop_eq_getElem_cons hlt,List.map_cons]
  rw [hdr,passB] at hps
  have hget:em'.getD i false=em'[i]:=by simp [List.getD,List.getElem?_eq_getElem hil]
  have hmi:(em'.map Value.bool)[i]? = some (.bool em'[i]):=by simp [List.getElem?_eq_getElem hil]
  rw [hget] at hps
  simp -dsimp only [go_sem,e1,e3,e4,e5,hi1]
  refine Dw_text (n:=37) [[],[],[0,1],[0,1,2],[0,1,2,3],[0,1,2,3,4],[0,1,2,3,4,5],[0,1,2,3,4,5],[0,1,2,3,4,5],[0,1,2,3,4,5,8],[0,1,2,3,4,5],[0,1,2,3,4,5,8,9,10],[0,1,2,3,4,5,8,9,10,11],[0,1,2,3,4,5,8,9,10,11,12],[0,1,2,3,4,5,6,7,8,9,10,11,12,13],[0,1,2,3,4,5,6,7,8,9,10,11,12,13,14]] (by simp -dsimp only [go_sem,hn']) (by kernel_rfl) ?_
  cases hei:em'[i] with
  | true =>
    rw [hei] at hmi hps
    simp -dsimp only [go_sem,undef',e1,e3,e4,e5,load_own hE',ia105 hlt,hmi,wrap64_succ hlt (Nat.le_trans R.hb (by decide))]
    rw [if_neg (by simp)] at hps
    exact ⟨l.length - (i+1),by omega,i+1,em',ag,hlt,rfl,hx,hE',hel',hps,hag,rfl,rfl⟩
  | false =>
    rw [hei] at hmi hps
    obtain ⟨_,h4,hs4,rfl,hx4⟩:=empty_c R (em:=em') (eb:=eb) hel' _ l[i].body (Nat.lt_succ_self _) h' _ hrom' hb' hE' hkid (hnm i _ hpi)
    simp -dsimp only [go_sem,undef',e1,e3,e4,e5,load_own hE',load_own hP',loads_own hP',ia105 hlt,ia22 hlt,hmi,loads_ro (n:=3) hrom' hat2 rfl,sameN_sliceA R.hs,sameN_sliceA hkid.same]
    refine ⟨_,h4,hs4,?_⟩
    have hE4:=own_ext hx4 hE'
    have hx5:ExtS (Only eb) h h4:=hx.trans hx4.toS
    simp -dsimp only [go_sem,undef']
    cases hm:mayB (emf (nms l) em') l[i].body with
    | true =>
      have hsto:=stores_own hE4 (o:=i) (vs:=[.bool true]) rfl (bool_store hil) (by simp)
      simp -dsimp only [go_sem,e1,e3,e4,e5,ia105 hlt,hsto,wrap64_succ hlt (Nat.le_trans R.hb (by decide))]
      rw [hm,if_pos (by simp)] at hps
      refine ⟨l.length - (i+1),by omega,i+1,_,true,hlt,rfl,hx5.put (.inr rfl) _,own_put_same hE4 _,by simp [hel'],hps,?_,rfl,rfl⟩
      rw [if_pos rfl]
      have h1:cf (em'.set i true)<cf em':=cf_set (by rw [List.getElem?_eq_getElem hil,hei])
      cases ag with
      | true=>exact Nat.lt_trans h1 hag
      | false=>simp at hag;rw [hag] at h1;rw [hag];exact h1
    | false =>
      simp -dsimp only [go_sem,e1,e3,e4,e5,wrap64_succ hlt (Nat.le_trans R.hb (by decide))]
      rw [hm,if_neg (by simp)] at hps
      exact ⟨l.length - (i+1),by omega,i+1,em',ag,hlt,rfl,hx5,hE4,hel',hps,hag,rfl,rfl⟩
 ·have hi0:decide ((i:Int)<(l.length:Int))=false:=decide_eq_false (by omega)
  simp -dsimp only [go_sem,e3,e5,hi0]
  refine hq _ _ em' ag ?_ hx hE' hel' ?_ ?_ ?_ ?_ hag
  ·simp -dsimp only [go_sem,hn']
  ·rw [←hps,List.drop_eq_nil_of_le (by omega)];rfl
  ·simp -dsimp only [go_sem,e1]
  ·simp -dsimp only [go_sem,e3]
  ·simp -dsimp only [go_sem,e4]
set_option maxHeartbeats 4000000 in
set_option maxRecDepth 10000 in
theorem empties_c {l:List Rule} {Av:Option Addr} {c b o:Nat} {css:Nat→List Value} (R:RoRules r l Av c b o css) (hnm:∀(i:Nat) (x:Rule),l[i]? = some x→named (nms l) x.body) (h:Hp) (hrom:h.rom=r) (hb:h.base≤h.next) :
  ∃v h1,Snd Try.prog 58 [.agg #[.slice Av l.length c]] h v h1∧Ext h h1∧∃eb em,v=.slice (some ⟨eb,0,none⟩) l.length l.length∧h.next≤eb∧h1.own eb 4 (em.map .bool)∧em.length=l.length∧Found l em:=by
 refine snd_go wf Try.func58 rfl rfl (n:=37) rfl (by kernel_rfl) rfl ?_
 intro a hn hg
 have hr:Try.f58.results.toList=[.tmp 2]:=rfl
 have g0:=hg 0
 clear hg
 simp only [List.getElem?_cons_zero,List.getElem?_cons_succ] at g0
 have hP:=own_new hb 24 [.slice Av l.length c]
 have hx0:=Ext.new h (CObj.cells ⟨[.slice Av l.length c],24,0,0,false⟩)
 have hb1:=Nat.le_succ_of_le (m:=h.next) hb
 have hE:=own_new (h:=h.newH (CObj.cells ⟨[.slice Av l.length c],24,0,0,false⟩)) hb1 4 (repeatN [.bool false] l.length)
 have hP1:=own_newH hP (CObj.cells { c:=repeatN [.bool false] l.length,e:=4,fam:=0,base:=0,grown:=false })
 have hx1:=hx0.trans (Ext.new _ (CObj.cells { c:=repeatN [.bool false] l.length,e:=4,fam:=0,base:=0,grown:=false }))
 simp -dsimp only [go_sem,g0,next_newH,load_own hP,ms105 l.length l.length (Nat.le_refl _) R.hb]
 simp only [next_newH] at hE hx1
 rw [repeat_bool] at hE hx1 hP1 ⊢
 generalize (h.newH (CObj.cells ⟨[.slice Av l.length c],24,0,0,false⟩)).newH (CObj.cells { c:=(List.replicate l.length false).map Value.bool,e:=4,fam:=0,base:=0,grown:=false })=h2 at hE hx1 hP1 ⊢
 refine loop_go (n:=37) (by kernel_rfl) (fun m' a' h'=>∃(em:List Bool) (ag:Bool),m'=2*cf em+(if ag=true then 1 else 0)∧em.length=l.length∧(∃k,em=iter (passB (nms l) (l.map (·.body)) 0) k (List.replicate l.length false))∧(ag=false→passB (nms l) (l.map (·.body)) 0 em=em)∧Ext h h'∧h'.own (h.next+1) 4 (em.map .bool)∧h'.own h.next 24 [.slice Av l.length c] ∧
  a'.get 1=.pointer (some ⟨h.next,0,none⟩)∧a'.get 3=.slice (some ⟨h.next+1,0,none⟩) l.length l.length∧a'.get 4=.bool ag) ?_ (2*cf (List.replicate l.length false)+1) _ _ (by simp -dsimp only [go_sem,hn]) ⟨_,true,rfl,by simp,⟨0,rfl⟩,fun e=>(by cases e),hx1,hE,hP1,by simp -dsimp only [go_sem],by simp -dsimp only [go_sem],by simp -dsimp only [go_sem]⟩
 rintro m' a' h' hn' ⟨em,ag,rfl,hel,⟨k,hk⟩,hfix,hx,hE',hP',e1,e3,e4⟩
 have hrom':h'.rom=r:=hx.rom.trans hrom
 have hb':h'.base≤h'.next:=by rw [hx.base];exact Nat.le_trans hb hx.next
 cases ag with
 | false =>
   simp -dsimp only [go_sem,e3,e4,hr]
   exact ⟨hx,h.next+1,em,rfl,by omega,hE',hel,⟨k,hk⟩,hfix rfl⟩
 | true =>
   simp -dsimp only [go_sem,e1,e3,e4]
   refine empties_pass R hnm (em:=em) (eb:=h.next+1) (gp:=h.next) (by simp -dsimp only [go_sem,hn']) hrom' hb' hP' hE' hel (by simp -dsimp only [go_sem,e1]) (by simp -dsimp only [go_sem,e3]) (by simp -dsimp only [go_sem]) (by simp -dsimp only [go_sem]) (fun a1 h1 em1 ag hn1 hx1 hE1 hel1 hp f1 f3 f4 hag => ?_)
   have hxx:Ext h h1:=(hx.toS.trans hx1).ext (fun b hb hs=>by
    have:b=h.next+1:=hs
    omega)
   simp -dsimp only [go_sem]
   refine ⟨2*cf em1+(if ag=true then 1 else 0),?_,em1,ag,rfl,hel1,⟨k+1,by rw [iter,←hk];exact hp.symm⟩,?_,hxx,hE1,own_extS hx1 hP' (by show h.next≠h.next+1;omega),f1,f3,f4⟩
   ·cases ag with
    | true=>simp at hag ⊢;omega
    | false=>simp at hag ⊢;rw [hag];omega
   ·intro e
    subst e
    simp at hag
    rw [hag] at hp ⊢
    exact hp
end Go.Ev.G24
end
section
namespace Go.Ev.G24
open Go.RowKit Go.Proofs
variable {r:Ro}
theorem kind_leaf {nm:List ByteArray} {d t:ByteArray} {n:Nat} (h:kindOk nm d t n=true) (h1:¬d.data.toList=[115,101,113]) (h2:¬d.data.toList=[111,114]) (h3:¬d.data.toList=[109,97,110,121]) (h4:¬d.data.toList=[111,112,116]) (h5:¬d.data.toList=[110,111,116]):n=0:=by
 unfold kindOk at h
 by_cases c1:d.data.toList=[105,115]
 ·rw [if_pos c1,Bool.and_eq_true] at h;exact of_decide_eq_true h.1
 rw [if_neg c1] at h
 by_cases c2:d.data.toList=[114,117,108,101]
 ·rw [if_pos c2,Bool.and_eq_true] at h;exact of_decide_eq_true h.1
 rw [if_neg c2] at h
 split at h
 ·cases h
 split at h
 ·exact of_decide_eq_true h
 rw [if_neg (by rintro (c|c);exact h1 c;exact h2 c),if_neg (by rintro (c|c|c);exact h3 c;exact h4 c;exact h5 c)] at h
 cases h
theorem kind_rule0 {nm:List ByteArray} {d t:ByteArray} {n:Nat} (h:kindOk nm d t n=true) (hd:d.data.toList=[114,117,108,101]):n=0 :=
 kind_leaf h (by rw [hd];decide) (by rw [hd];decide) (by rw [hd];decide) (by rw [hd];decide) (by rw [hd];decide)
theorem rightL_get {nm:List ByteArray}:∀{l:List Part},rightL nm l=true→∀(i:Nat) (p:Part),l[i]? = some p→rightP nm p=true
 | y::l,h,i,x,hx=>by
   rw [rightL,Bool.and_eq_true] at h
   cases i with
   | zero=>simp at hx;subst hx;exact h.1
   | succ i=>exact rightL_get h.2 i x (by simpa using hx)
def LeftC (r:Ro) (G:List Rule) (Gv:Option Addr) (gc eb tb:Nat) (em:List Bool) (p:Part):Prop:=∀(h:Hp) (cs:List Value) (bs:List Bool),h.rom=r→h.base≤h.next→h.own eb 4 (em.map .bool)→RoPart r p cs→rightP (nms G) p=true →
 h.own tb 4 (bs.map .bool)→bs.length=G.length →
 ∃v h1,Snd Try.prog 59 [.agg #[.slice Gv G.length gc],.slice (some ⟨eb,0,none⟩) G.length G.length,.agg cs.toArray,.slice (some ⟨tb,0,none⟩) G.length G.length] h v h1∧v=.tuple #[]∧ExtS (Only tb) h h1∧h1.own tb 4 ((startB (emf (nms G) em) (idxOf (nms G)) p bs).map .bool)
set_option maxHeartbeats 8000000 in
set_option maxRecDepth 10000 in
theorem left_c {G:List Rule} {Gv:Option Addr} {gc gb go eb tb:Nat} {gcss:Nat→List Value} (R:RoRules r G Gv gc gb go gcss) {em:List Bool} (hel:em.length=G.length) (het:eb≠tb):∀(n:Nat) (p:Part),SizeOf.sizeOf p<n→LeftC r G Gv gc eb tb em p:=by
 intro n
 induction n with
 | zero=>exact fun p hp=>absurd hp (Nat.not_lt_zero _)
 | succ n ihn =>
 rintro ⟨d,t,l⟩ hn h cs bs hrom hb hE hp hrp hT hbl
 have ih:∀(i:Nat) (p:Part),l[i]? = some p→LeftC r G Gv gc eb tb em p:=fun i p hp=>ihn p (by
  have:=List.sizeOf_lt_of_mem (List.mem_of_getElem? hp)
  simp only [Part.mk.sizeOf_spec] at hn
  omega)
 have hrp0:=hrp
 rw [rightP,Bool.and_eq_true] at hrp
 obtain ⟨hrl,hko⟩:=hrp
 have hnk:∀(i:Nat) (p:Part),l[i]? = some p→rightP (nms G) p=true:=rightL_get hrl
 have hGl:(nms G).length=G.length:=by simp [nms]
 cases hp with
 | mk _ _ _ Av c b o css hc hlb hA hat hk hs =>
 refine snd_go wf Try.func59 rfl rfl (n:=68) rfl (by kernel_rfl) rfl ?_
 intro a hn hg
 have hr:Try.f59.results.toList=[]:=rfl
 have g0:=hg 0
 have g1:=hg 1
 have g2:=hg 2
 have g3:=hg 3
 clear hg
 simp only [List.getElem?_cons_zero,List.getElem?_cons_succ] at g0 g1 g2 g3
 have hG:=own_new hb 24 [.slice Gv G.length gc]
 have hxg:=Ext.new h (CObj.cells ⟨[.slice Gv G.length gc],24,0,0,false⟩)
 have hbg:=Nat.le_succ_of_le (m:=h.next) hb
 have hP:=own_new (h:=h.newH (CObj.cells ⟨[.slice Gv G.length gc],24,0,0,false⟩)) hbg 52 [.string d,.string t,.slice Av l.length c]
 have hG1:=own_newH hG (CObj.cells ⟨[.string d,.string t,.slice Av l.length c],52,0,0,false⟩)
 have hx0:=hxg.trans (Ext.new _ (CObj.cells ⟨[.string d,.string t,.slice Av l.length c],52,0,0,false⟩))
 simp -dsimp only [go_sem,g0,g1,g2,g3,next_newH]
 simp only [next_newH] at hP
 generalize (h.newH (CObj.cells ⟨[.slice Gv G.length gc],24,0,0,false⟩)).newH (CObj.cells ⟨[.string d,.string t,.slice Av l.length c],52,0,0,false⟩)=h2 at hP hG1 hx0 ⊢
 have hb2:h2.base≤h2.next:=by rw [hx0.base];exact Nat.le_trans hb hx0.next
 have hT2:=own_ext hx0 hT
 have hE2:=own_ext hx0 hE
 have htn:tb<h.next:=hT.2.1
 have hpt:h.next≠tb:=Nat.ne_of_gt htn
 have hpt1:h.next+1≠tb:=by omega
 simp -dsimp only [go_sem,load_own hP]
 have estart:∀sq:Bool,l=[]→startL (emf (nms G) em) (idxOf (nms G)) sq l bs=bs:=by
  intro sq e;subst e;rw [startL]
 by_cases c1:d.data.toList=[114,117,108,101]
 ·have hidx:idxOf (nms G) t<(nms G).length:=kind_rule hko c1
  have hl0:l=[]:=List.length_eq_zero_iff.1 (kind_rule0 hko c1)
  obtain ⟨_,h5,hs5,rfl,hx5⟩:=find_c R t h2 (hx0.rom.trans hrom) hb2
  have hfi:findB t (nms G) 0=((idxOf (nms G) t:Nat):Int):=by rw [findB_idx,if_pos hidx,Nat.zero_add]
  rw [hGl] at hidx
  have hsto:=stores_own (own_ext hx5 hT2) (o:=idxOf (nms G) t) (vs:=[.bool true]) rfl (bool_store (by rw [hbl];exact hidx)) (by simp)
  simp -dsimp only [go_sem,g3,decide_eq_true c1,load_own hP,loads_own hG1,hr]
  refine ⟨_,h5,hs5,?_⟩
  simp -dsimp only [go_sem,g3,hfi,ia105 hidx,hsto,hr]
  refine ⟨((hx0.trans hx5).toS (S:=Only tb)).put (.inr rfl) _,?_⟩
  have e:startB (emf (nms G) em) (idxOf (nms G)) ⟨d,t,l⟩ bs=bs.set (idxOf (nms G) t) true:=by
   unfold startB
   rw [if_pos c1]
   subst hl0
   rw [startL]
  rw [e]
  exact own_put_same (own_ext hx5 hT2) _
 have estart2:∀sq:Bool,decide (d.data.toList=[115,101,113])=sq→startB (emf (nms G) em) (idxOf (nms G)) ⟨d,t,l⟩ bs=startL (emf (nms G) em) (idxOf (nms G)) sq l bs:=by
  intro sq e;unfold startB;rw [if_neg c1,e]
 by_cases c2:d.data.toList=[115,101,113]
 ·simp -dsimp only [go_sem,decide_eq_false c1,decide_eq_true c2,hr]
  refine loop_go (n:=68) (by kernel_rfl) (fun m' a' h'=>∃(i:Nat) (bs':List Bool),i≤l.length∧m'=l.length - i∧ExtS (Only tb) h2 h'∧h'.own tb 4 (bs'.map .bool)∧bs'.length=G.length∧startL (emf (nms G) em) (idxOf (nms G)) true (l.drop i) bs'=startL (emf (nms G) em) (idxOf (nms G)) true l bs ∧
   a'.get 1=.slice (some ⟨eb,0,none⟩) G.length G.length∧a'.get 3=.slice (some ⟨tb,0,none⟩) G.length G.length∧a'.get 4=.pointer (some ⟨h.next,0,none⟩)∧a'.get 6=.pointer (some ⟨h.next+1,0,none⟩)∧a'.get 8=.int .i64 i) ?_ l.length _ _ (by simp -dsimp only [go_sem,hn]) ⟨0,bs,Nat.zero_le _,rfl,(Ext.refl _).toS,hT2,hbl,by rw [List.drop_zero],by simp -dsimp only [go_sem,g1],by simp -dsimp only [go_sem,g3],by simp -dsimp only [go_sem],by simp -dsimp only [go_sem],by simp -dsimp only [go_sem];rfl⟩
  rintro m' a' h' hn' ⟨i,bs',hi,rfl,hx,hT',hbl',hst,e1,e3,e4,e6,e8⟩
  have hrom':h'.rom=r:=ext_rom hx (hx0.rom.trans hrom)
  have hb':h'.base≤h'.next:=ext_bn hx hb2
  have hP':=own_extS hx hP hpt1
  have hG':=own_extS hx hG1 hpt
  have hE':=own_extS hx hE2 het
  by_cases hlt:i<l.length
  ·have hpi:l[i]? = some l[i]:=List.getElem?_eq_getElem hlt
   have hi1:decide ((i:Int)<(l.length:Int))=true:=decide_eq_true (Int.ofNat_lt.2 hlt)
   obtain ⟨Av1,c1',hcs⟩:=(hk i _ hpi).shape
   have hat':=hat i _ hpi
   have hkid:=hk i _ hpi
   rw [hcs] at hat' hkid
   have hAv:=hA (ne_nil hlt)
   subst hAv
   obtain ⟨_,h4,hs4,rfl,hx4,hT4⟩:=ih i _ hpi h' _ bs' hrom' hb' hE' hkid (hnk i _ hpi) hT' hbl'
   simp -dsimp only [go_sem,e1,e3,e4,e6,e8,hi1,load_own hP']
   refine Dw_text (n:=68) [[],[],[],[2],[],[2,3,4],[2,3,4,5],[],[0,1,2,3,4,5,6,7]] (by simp -dsimp only [go_sem,hn']) (by kernel_rfl) ?_
   simp -dsimp only [go_sem,e1,e3,e4,e6,e8,loads_own hG',load_own hP',loads_own hP',ia50 hlt,loads_ro (n:=3) hrom' hat' rfl,sameN_sliceA R.hs,sameN_sliceA hkid.same]
   refine ⟨_,h4,hs4,?_⟩
   rw [List.drop_eq_getElem_cons hlt,startL] at hst
   have hx5:ExtS (Only tb) h2 h4:=hx.trans hx4
   have hP4:=own_extS hx4 hP' hpt1
   have hG4:=own_extS hx4 hG' hpt
   have hE4:=own_extS hx4 hE' het
   have hrom4:h4.rom=r:=ext_rom hx4 hrom'
   have hb4:h4.base≤h4.next:=ext_bn hx4 hb'
   obtain ⟨_,h6,hs6,rfl,hx6⟩:=empty_c R (em:=em) (eb:=eb) hel _ l[i] (Nat.lt_succ_self _) h4 _ hrom4 hb4 hE4 hkid (right_named _ (hnk i _ hpi))
   try simp -dsimp only [go_sem,e1,e3,e4,e6,e8]
   refine Dw_text (n:=68) [[],[],[],[2],[],[2,3,4],[2,3,4,5],[0,1,2,3,4,5,6],[0,1,2,3,4,5,6,7]] (by simp -dsimp only [go_sem,hn']) (by kernel_rfl) ?_
   simp -dsimp only [go_sem,e1,e3,e4,e6,e8,loads_own hG4,load_own hP4,loads_own hP4,ia50 hlt,loads_ro (n:=3) hrom4 hat' rfl,sameN_sliceA R.hs,sameN_sliceA hkid.same]
   refine ⟨_,h6,hs6,?_⟩
   simp -dsimp only [go_sem]
   have hx7:ExtS (Only tb) h2 h6:=hx5.trans hx6.toS
   cases hm:mayB (emf (nms G) em) l[i] with
   | false =>
     rw [hm,if_pos (by simp)] at hst
     simp -dsimp only [go_sem,hr]
     rw [estart2 true (decide_eq_true c2),←hst]
     exact ⟨hx0.toS.trans hx7,own_ext hx6 hT4⟩
   | true =>
     rw [hm,if_neg (by simp)] at hst
     simp -dsimp only [go_sem,e1,e3,e4,e6,e8,wrap64_succ hlt hlb]
     exact ⟨l.length - (i+1),by omega,i+1,_,hlt,rfl,hx7,own_ext hx6 hT4,by rw [startB_len];exact hbl',hst,rfl⟩
  ·have hi0:decide ((i:Int)<(l.length:Int))=false:=decide_eq_false (by omega)
   rw [List.drop_eq_nil_of_le (by omega),startL] at hst
   simp -dsimp only [go_sem,e6,e8,hi0,load_own hP',hr]
   rw [estart2 true (decide_eq_true c2),←hst]
   exact ⟨hx0.toS.trans hx,hT'⟩
 by_cases c3:d.data.toList=[111,114]
 ·simp -dsimp only [go_sem,decide_eq_false c1,decide_eq_false c2,decide_eq_true c3,hr]
  refine loop_go (n:=68) (by kernel_rfl) (fun m' a' h'=>∃(i:Nat) (bs':List Bool),i≤l.length∧m'=l.length - i∧ExtS (Only tb) h2 h'∧h'.own tb 4 (bs'.map .bool)∧bs'.length=G.length∧startL (emf (nms G) em) (idxOf (nms G)) false (l.drop i) bs'=startL (emf (nms G) em) (idxOf (nms G)) false l bs ∧
   a'.get 1=.slice (some ⟨eb,0,none⟩) G.length G.length∧a'.get 3=.slice (some ⟨tb,0,none⟩) G.length G.length∧a'.get 4=.pointer (some ⟨h.next,0,none⟩)∧a'.get 6=.pointer (some ⟨h.next+1,0,none⟩)∧a'.get 9=.int .i64 i) ?_ l.length _ _ (by simp -dsimp only [go_sem,hn]) ⟨0,bs,Nat.zero_le _,rfl,(Ext.refl _).toS,hT2,hbl,by rw [List.drop_zero],by simp -dsimp only [go_sem,g1],by simp -dsimp only [go_sem,g3],by simp -dsimp only [go_sem],by simp -dsimp only [go_sem],by simp -dsimp only [go_sem];rfl⟩
  rintro m' a' h' hn' ⟨i,bs',hi,rfl,hx,hT',hbl',hst,e1,e3,e4,e6,e8⟩
  have hrom':h'.rom=r:=ext_rom hx (hx0.rom.trans hrom)
  have hb':h'.base≤h'.next:=ext_bn hx hb2
  have hP':=own_extS hx hP hpt1
  have hG':=own_extS hx hG1 hpt
  have hE':=own_extS hx hE2 het
  by_cases hlt:i<l.length
  ·have hpi:l[i]? = some l[i]:=List.getElem?_eq_getElem hlt
   have hi1:decide ((i:Int)<(l.length:Int))=true:=decide_eq_true (Int.ofNat_lt.2 hlt)
   obtain ⟨Av1,c1',hcs⟩:=(hk i _ hpi).shape
   have hat':=hat i _ hpi
   have hkid:=hk i _ hpi
   rw [hcs] at hat' hkid
   have hAv:=hA (ne_nil hlt)
   subst hAv
   obtain ⟨_,h4,hs4,rfl,hx4,hT4⟩:=ih i _ hpi h' _ bs' hrom' hb' hE' hkid (hnk i _ hpi) hT' hbl'
   simp -dsimp only [go_sem,e1,e3,e4,e6,e8,hi1,load_own hP']
   refine Dw_text (n:=68) [[],[],[],[2],[],[2,3,4],[2,3,4,5],[],[0,1,2,3,4,5,6,7]] (by simp -dsimp only [go_sem,hn']) (by kernel_rfl) ?_
   simp -dsimp only [go_sem,e1,e3,e4,e6,e8,loads_own hG',load_own hP',loads_own hP',ia50 hlt,loads_ro (n:=3) hrom' hat' rfl,sameN_sliceA R.hs,sameN_sliceA hkid.same]
   refine ⟨_,h4,hs4,?_⟩
   rw [List.drop_eq_getElem_cons hlt,startL] at hst
   have hx5:ExtS (Only tb) h2 h4:=hx.trans hx4
   rw [Bool.false_and,if_neg (by simp)] at hst
   simp -dsimp only [go_sem,e1,e3,e4,e6,e8,wrap64_succ hlt hlb]
   exact ⟨l.length - (i+1),by omega,i+1,_,hlt,rfl,hx5,hT4,by rw [startB_len];exact hbl',hst,rfl⟩
  ·have hi0:decide ((i:Int)<(l.length:Int))=false:=decide_eq_false (by omega)
   rw [List.drop_eq_nil_of_le (by omega),startL] at hst
   simp -dsimp only [go_sem,e6,e8,hi0,load_own hP',hr]
   rw [estart2 false (decide_eq_false c2),←hst]
   exact ⟨hx0.toS.trans hx,hT'⟩
 by_cases c4:d.data.toList=[109,97,110,121]
 ·simp -dsimp only [go_sem,decide_eq_false c1,decide_eq_false c2,decide_eq_false c3,decide_eq_true c4,hr]
  refine loop_go (n:=68) (by kernel_rfl) (fun m' a' h'=>∃(i:Nat) (bs':List Bool),i≤l.length∧m'=l.length - i∧ExtS (Only tb) h2 h'∧h'.own tb 4 (bs'.map .bool)∧bs'.length=G.length∧startL (emf (nms G) em) (idxOf (nms G)) false (l.drop i) bs'=startL (emf (nms G) em) (idxOf (nms G)) false l bs ∧
   a'.get 1=.slice (some ⟨eb,0,none⟩) G.length G.length∧a'.get 3=.slice (some ⟨tb,0,none⟩) G.length G.length∧a'.get 4=.pointer (some ⟨h.next,0,none⟩)∧a'.get 6=.pointer (some ⟨h.next+1,0,none⟩)∧a'.get 9=.int .i64 i) ?_ l.length _ _ (by simp -dsimp only [go_sem,hn]) ⟨0,bs,Nat.zero_le _,rfl,(Ext.refl _).toS,hT2,hbl,by rw [List.drop_zero],by simp -dsimp only [go_sem,g1],by simp -dsimp only [go_sem,g3],by simp -dsimp only [go_sem],by simp -dsimp only [go_sem],by simp -dsimp only [go_sem];rfl⟩
  rintro m' a' h' hn' ⟨i,bs',hi,rfl,hx,hT',hbl',hst,e1,e3,e4,e6,e8⟩
  have hrom':h'.rom=r:=ext_rom hx (hx0.rom.trans hrom)
  have hb':h'.base≤h'.next:=ext_bn hx hb2
  have hP':=own_extS hx hP hpt1
  have hG':=own_extS hx hG1 hpt
  have hE':=own_extS hx hE2 het
  by_cases hlt:i<l.length
  ·have hpi:l[i]? = some l[i]:=List.getElem?_eq_getElem hlt
   have hi1:decide ((i:Int)<(l.length:Int))=true:=decide_eq_true (Int.ofNat_lt.2 hlt)
   obtain ⟨Av1,c1',hcs⟩:=(hk i _ hpi).shape
   have hat':=hat i _ hpi
   have hkid:=hk i _ hpi
   rw [hcs] at hat' hkid
   have hAv:=hA (ne_nil hlt)
   subst hAv
   obtain ⟨_,h4,hs4,rfl,hx4,hT4⟩:=ih i _ hpi h' _ bs' hrom' hb' hE' hkid (hnk i _ hpi) hT' hbl'
   simp -dsimp only [go_sem,e1,e3,e4,e6,e8,hi1,load_own hP']
   refine Dw_text (n:=68) [[],[],[],[2],[],[2,3,4],[2,3,4,5],[],[0,1,2,3,4,5,6,7]] (by simp -dsimp only [go_sem,hn']) (by kernel_rfl) ?_
   simp -dsimp only [go_sem,e1,e3,e4,e6,e8,loads_own hG',load_own hP',loads_own hP',ia50 hlt,loads_ro (n:=3) hrom' hat' rfl,sameN_sliceA R.hs,sameN_sliceA hkid.same]
   refine ⟨_,h4,hs4,?_⟩
   rw [List.drop_eq_getElem_cons hlt,startL] at hst
   have hx5:ExtS (Only tb) h2 h4:=hx.trans hx4
   rw [Bool.false_and,if_neg (by simp)] at hst
   simp -dsimp only [go_sem,e1,e3,e4,e6,e8,wrap64_succ hlt hlb]
   exact ⟨l.length - (i+1),by omega,i+1,_,hlt,rfl,hx5,hT4,by rw [startB_len];exact hbl',hst,rfl⟩
  ·have hi0:decide ((i:Int)<(l.length:Int))=false:=decide_eq_false (by omega)
   rw [List.drop_eq_nil_of_le (by omega),startL] at hst
   simp -dsimp only [go_sem,e6,e8,hi0,load_own hP',hr]
   rw [estart2 false (decide_eq_false c2),←hst]
   exact ⟨hx0.toS.trans hx,hT'⟩
 by_cases c5:d.data.toList=[111,112,116]
 ·simp -dsimp only [go_sem,decide_eq_false c1,decide_eq_false c2,decide_eq_false c3,decide_eq_false c4,decide_eq_true c5,hr]
  refine loop_go (n:=68) (by kernel_rfl) (fun m' a' h'=>∃(i:Nat) (bs':List Bool),i≤l.length∧m'=l.length - i∧ExtS (Only tb) h2 h'∧h'.own tb 4 (bs'.map .bool)∧bs'.length=G.length∧startL (emf (nms G) em) (idxOf (nms G)) false (l.drop i) bs'=startL (emf (nms G) em) (idxOf (nms G)) false l bs ∧
   a'.get 1=.slice (some ⟨eb,0,none⟩) G.length G.length∧a'.get 3=.slice (some ⟨tb,0,none⟩) G.length G.length∧a'.get 4=.pointer (some ⟨h.next,0,none⟩)∧a'.get 6=.pointer (some ⟨h.next+1,0,none⟩)∧a'.get 9=.int .i64 i) ?_ l.length _ _ (by simp -dsimp only [go_sem,hn]) ⟨0,bs,Nat.zero_le _,rfl,(Ext.refl _).toS,hT2,hbl,by rw [List.drop_zero],by simp -dsimp only [go_sem,g1],by simp -dsimp only [go_sem,g3],by simp -dsimp only [go_sem],by simp -dsimp only [go_sem],by simp -dsimp only [go_sem];rfl⟩
  rintro m' a' h' hn' ⟨i,bs',hi,rfl,hx,hT',hbl',hst,e1,e3,e4,e6,e8⟩
  have hrom':h'.rom=r:=ext_rom hx (hx0.rom.trans hrom)
  have hb':h'.base≤h'.next:=ext_bn hx hb2
  have hP':=own_extS hx hP hpt1
  have hG':=own_extS hx hG1 hpt
  have hE':=own_extS hx hE2 het
  by_cases hlt:i<l.length
  ·have hpi:l[i]? = some l[i]:=List.getElem?_eq_getElem hlt
   have hi1:decide ((i:Int)<(l.length:Int))=true:=decide_eq_true (Int.ofNat_lt.2 hlt)
   obtain ⟨Av1,c1',hcs⟩:=(hk i _ hpi).shape
   have hat':=hat i _ hpi
   have hkid:=hk i _ hpi
   rw [hcs] at hat' hkid
   have hAv:=hA (ne_nil hlt)
   subst hAv
   obtain ⟨_,h4,hs4,rfl,hx4,hT4⟩:=ih i _ hpi h' _ bs' hrom' hb' hE' hkid (hnk i _ hpi) hT' hbl'
   simp -dsimp only [go_sem,e1,e3,e4,e6,e8,hi1,load_own hP']
   refine Dw_text (n:=68) [[],[],[],[2],[],[2,3,4],[2,3,4,5],[],[0,1,2,3,4,5,6,7]] (by simp -dsimp only [go_sem,hn']) (by kernel_rfl) ?_
   simp -dsimp only [go_sem,e1,e3,e4,e6,e8,loads_own hG',load_own hP',loads_own hP',ia50 hlt,loads_ro (n:=3) hrom' hat' rfl,sameN_sliceA R.hs,sameN_sliceA hkid.same]
   refine ⟨_,h4,hs4,?_⟩
   rw [List.drop_eq_getElem_cons hlt,startL] at hst
   have hx5:ExtS (Only tb) h2 h4:=hx.trans hx4
   rw [Bool.false_and,if_neg (by simp)] at hst
   simp -dsimp only [go_sem,e1,e3,e4,e6,e8,wrap64_succ hlt hlb]
   exact ⟨l.length - (i+1),by omega,i+1,_,hlt,rfl,hx5,hT4,by rw [startB_len];exact hbl',hst,rfl⟩
  ·have hi0:decide ((i:Int)<(l.length:Int))=false:=decide_eq_false (by omega)
   rw [List.drop_eq_nil_of_le (by omega),startL] at hst
   simp -dsimp only [go_sem,e6,e8,hi0,load_own hP',hr]
   rw [estart2 false (decide_eq_false c2),←hst]
   exact ⟨hx0.toS.trans hx,hT'⟩
 by_cases c6:d.data.toList=[110,111,116]
 ·simp -dsimp only [go_sem,decide_eq_false c1,decide_eq_false c2,decide_eq_false c3,decide_eq_false c4,decide_eq_false c5,decide_eq_true c6,hr]
  refine loop_go (n:=68) (by kernel_rfl) (fun m' a' h'=>∃(i:Nat) (bs':List Bool),i≤l.length∧m'=l.length - i∧ExtS (Only tb) h2 h'∧h'.own tb 4 (bs'.map .bool)∧bs'.length=G.length∧startL (emf (nms G) em) (idxOf (nms G)) false (l.drop i) bs'=startL (emf (nms G) em) (idxOf (nms G)) false l bs ∧
   a'.get 1=.slice (some ⟨eb,0,none⟩) G.length G.length∧a'.get 3=.slice (some ⟨tb,0,none⟩) G.length G.length∧a'.get 4=.pointer (some ⟨h.next,0,none⟩)∧a'.get 6=.pointer (some ⟨h.next+1,0,none⟩)∧a'.get 9=.int .i64 i) ?_ l.length _ _ (by simp -dsimp only [go_sem,hn]) ⟨0,bs,Nat.zero_le _,rfl,(Ext.refl _).toS,hT2,hbl,by rw [List.drop_zero],by simp -dsimp only [go_sem,g1],by simp -dsimp only [go_sem,g3],by simp -dsimp only [go_sem],by simp -dsimp only [go_sem],by simp -dsimp only [go_sem];rfl⟩
  rintro m' a' h' hn' ⟨i,bs',hi,rfl,hx,hT',hbl',hst,e1,e3,e4,e6,e8⟩
  have hrom':h'.rom=r:=ext_rom hx (hx0.rom.trans hrom)
  have hb':h'.base≤h'.next:=ext_bn hx hb2
  have hP':=own_extS hx hP hpt1
  have hG':=own_extS hx hG1 hpt
  have hE':=own_extS hx hE2 het
  by_cases hlt:i<l.length
  ·have hpi:l[i]? = some l[i]:=List.getElem?_eq_getElem hlt
   have hi1:decide ((i:Int)<(l.length:Int))=true:=decide_eq_true (Int.ofNat_lt.2 hlt)
   obtain ⟨Av1,c1',hcs⟩:=(hk i _ hpi).shape
   have hat':=hat i _ hpi
   have hkid:=hk i _ hpi
   rw [hcs] at hat' hkid
   have hAv:=hA (ne_nil hlt)
   subst hAv
   obtain ⟨_,h4,hs4,rfl,hx4,hT4⟩:=ih i _ hpi h' _ bs' hrom' hb' hE' hkid (hnk i _ hpi) hT' hbl'
   simp -dsimp only [go_sem,e1,e3,e4,e6,e8,hi1,load_own hP']
   refine Dw_text (n:=68) [[],[],[],[2],[],[2,3,4],[2,3,4,5],[],[0,1,2,3,4,5,6,7]] (by simp -dsimp only [go_sem,hn']) (by kernel_rfl) ?_
   simp -dsimp only [go_sem,e1,e3,e4,e6,e8,loads_own hG',load_own hP',loads_own hP',ia50 hlt,loads_ro (n:=3) hrom' hat' rfl,sameN_sliceA R.hs,sameN_sliceA hkid.same]
   refine ⟨_,h4,hs4,?_⟩
   rw [List.drop_eq_getElem_cons hlt,startL] at hst
   have hx5:ExtS (Only tb) h2 h4:=hx.trans hx4
   rw [Bool.false_and,if_neg (by simp)] at hst
   simp -dsimp only [go_sem,e1,e3,e4,e6,e8,wrap64_succ hlt hlb]
   exact ⟨l.length - (i+1),by omega,i+1,_,hlt,rfl,hx5,hT4,by rw [startB_len];exact hbl',hst,rfl⟩
  ·have hi0:decide ((i:Int)<(l.length:Int))=false:=decide_eq_false (by omega)
   rw [List.drop_eq_nil_of_le (by omega),startL] at hst
   simp -dsimp only [go_sem,e6,e8,hi0,load_own hP',hr]
   rw [estart2 false (decide_eq_false c2),←hst]
   exact ⟨hx0.toS.trans hx,hT'⟩
 have hl0:l=[]:=List.length_eq_zero_iff.1 (kind_leaf hko c2 c3 c4 c5 c6)
 simp -dsimp only [go_sem,decide_eq_false c1,decide_eq_false c2,decide_eq_false c3,decide_eq_false c4,decide_eq_false c5,decide_eq_false c6,hr]
 rw [estart2 false (decide_eq_false c2),estart false hl0]
 exact ⟨hx0.toS,hT2⟩
end Go.Ev.G24
end
section
namespace Go.Ev.G24
open Go.RowKit Go.Proofs
variable {r:Ro}
def Idle2C (r:Ro) (G:List Rule) (Gv:Option Addr) (gc eb:Nat) (em:List Bool) (p:Part):Prop:=∀(h:Hp) (cs:List Value),h.rom=r→h.base≤h.next→h.own eb 4 (em.map .bool)→RoPart r p cs→named (nms G) p →
 ∃v h1,Snd Try.prog 60 [.agg #[.slice Gv G.length gc],.slice (some ⟨eb,0,none⟩) G.length G.length,.agg cs.toArray] h v h1∧v=.bool (idleB (emf (nms G) em) p)∧Ext h h1
set_option maxHeartbeats 4000000 in
set_option maxRecDepth 10000 in
theorem idle2_loop {G:List Rule} {Gv:Option Addr} {gc gb go eb:Nat} {gcss:Nat→List Value} (R:RoRules r G Gv gc gb go gcss) {em:List Bool} {d t:ByteArray} {l:List Part} {Av:Option Addr} {c b o gp pb:Nat} {css:Nat→List Value} (ih:∀(i:Nat) (p:Part),l[i]? = some p→Idle2C r G Gv gc eb em p) (hnk:∀(i:Nat) (p:Part),l[i]? = some p→named (nms G) p)
  (hlb:l.length≤9223372036854775807) (hA:l≠[]→Av=some ⟨b,o,none⟩) (hat:∀(i:Nat) (p:Part),l[i]? = some p→roAt r b (o+i*3) (css i)) (hk:∀(i:Nat) (p:Part),l[i]? = some p→RoPart r p (css i))
  {a:Ev.A} {h1:Hp} {Q:Ex→Ev.A→Hp→Prop} (hn:a.n=35) (hrom:h1.rom=r) (hb1:h1.base≤h1.next) (hE:h1.own eb 4 (em.map .bool)) (hG:h1.own gp 24 [.slice Gv G.length gc]) (hP:h1.own pb 52 [.string d,.string t,.slice Av l.length c])
  (g1:a.get 1=.slice (some ⟨eb,0,none⟩) G.length G.length) (g3:a.get 3=.pointer (some ⟨gp,0,none⟩)) (g5:a.get 5=.pointer (some ⟨pb,0,none⟩)) (g7:a.get 7=.int .i64 0)
  (hq0:∀a1 h2,Ext h1 h2→idleL (emf (nms G) em) l=false→Q (.exit 0) a1 h2) (hq1:∀a1 h2,Ext h1 h2→idleL (emf (nms G) em) l=true→a1.get 6=.bool true→Q .ret a1 h2):Th Try.prog (bodyAt Try.f60 [1,1,0,1,0]) a h1 Q ⟨⟩ ⟨⟩:=by
 simp only [bodyAt,nav,Try.f60]
 refine loop_go (n:=35) (by kernel_rfl) (fun m' a' h'=>∃i:Nat,i≤l.length∧m'=l.length - i∧Ext h1 h'∧(∀(j:Nat) (p:Part),j<i→l[j]? = some p→idleB (emf (nms G) em) p=false) ∧
  a'.get 1=.slice (some ⟨eb,0,none⟩) G.length G.length∧a'.get 3=.pointer (some ⟨gp,0,none⟩)∧a'.get 5=.pointer (some ⟨pb,0,none⟩)∧a'.get 7=.int .i64 i) ?_ l.length _ _ hn ⟨0,Nat.zero_le _,rfl,Ext.refl _,fun j p hj=>absurd hj (Nat.not_lt_zero _),g1,g3,g5,g7⟩
 rintro m' a' h' hn' ⟨i,hi,rfl,hx,hall,e1,e3,e5,e7⟩
 have hrom':h'.rom=r:=hx.rom.trans hrom
 have hb':h'.base≤h'.next:=by rw [hx.base];exact Nat.le_trans hb1 hx.next
 have hP':=own_ext hx hP
 have hG':=own_ext hx hG
 by_cases hlt:i<l.length
 ·have hpi:l[i]? = some l[i]:=List.getElem?_eq_getElem hlt
  have hi1:decide ((i:Int)<(l.length:Int))=true:=decide_eq_true (Int.ofNat_lt.2 hlt)
  obtain ⟨Av1,c1',hcs⟩:=(hk i _ hpi).shape
  have hat':=hat i _ hpi
  have hkid:=hk i _ hpi
  rw [hcs] at hat' hkid
  have hAv:=hA (ne_nil hlt)
  subst hAv
  obtain ⟨_,h4,hs4,rfl,hx4⟩:=ih i _ hpi h' _ hrom' hb' (own_ext hx hE) hkid (hnk i _ hpi)
  simp -dsimp only [go_sem,e1,e3,e5,e7,hi1,load_own hP']
  refine Dw_text (n:=35) [[],[],[],[2],[],[2,3,4],[2,3,4,5],[0,1,2,3,4,5,6]] (by simp -dsimp only [go_sem,hn']) (by kernel_rfl) ?_
  simp -dsimp only [go_sem,e1,e3,e5,e7,loads_own hG',load_own hP',loads_own hP',ia50 hlt,loads_ro (n:=3) hrom' hat' rfl,sameN_sliceA R.hs,sameN_sliceA hkid.same]
  refine ⟨_,h4,hs4,?_⟩
  simp -dsimp only [go_sem]
  cases hm:idleB (emf (nms G) em) l[i] with
  | true =>
    simp -dsimp only [go_sem]
    refine hq1 _ _ (hx.trans hx4) ?_ (by simp -dsimp only [go_sem])
    cases hq:idleL (emf (nms G) em) l with
    | true=>rfl
    | false=>rw [(idleL_iff _ l).1 hq i _ hpi] at hm;cases hm
  | false =>
    simp -dsimp only [go_sem,e1,e3,e5,e7,wrap64_succ hlt hlb]
    refine ⟨l.length - (i+1),by omega,i+1,hlt,rfl,hx.trans hx4,fun j p hj hp => ?_,rfl⟩
    rcases Nat.lt_succ_iff_lt_or_eq.1 hj with h|h
    ·exact hall j p h hp
    ·subst h;rw [hpi] at hp;injection hp with hp;subst hp;exact hm
 ·have hi0:decide ((i:Int)<(l.length:Int))=false:=decide_eq_false (by omega)
  simp -dsimp only [go_sem,e5,e7,hi0,load_own hP']
  exact hq0 _ _ hx ((idleL_iff _ l).2 fun j p hp=>hall j p (by have:=(List.getElem?_eq_some_iff.1 hp).1;omega) hp)
set_option maxHeartbeats 4000000 in
set_option maxRecDepth 10000 in
theorem idle2_c {G:List Rule} {Gv:Option Addr} {gc gb go eb:Nat} {gcss:Nat→List Value} (R:RoRules r G Gv gc gb go gcss) {em:List Bool} (hel:em.length=G.length):∀(n:Nat) (p:Part),SizeOf.sizeOf p<n→Idle2C r G Gv gc eb em p:=by
 intro n
 induction n with
 | zero=>exact fun p hp=>absurd hp (Nat.not_lt_zero _)
 | succ n ihn =>
 rintro ⟨d,t,l⟩ hn h cs hrom hb hE hp hnm
 have ih:∀(i:Nat) (p:Part),l[i]? = some p→Idle2C r G Gv gc eb em p:=fun i p hp=>ihn p (by
  have:=List.sizeOf_lt_of_mem (List.mem_of_getElem? hp)
  simp only [Part.mk.sizeOf_spec] at hn
  omega)
 have hnk:∀(i:Nat) (p:Part),l[i]? = some p→named (nms G) p:=namedL_get hnm.2.2
 have hGl:(nms G).length=G.length:=by simp [nms]
 cases hp with
 | mk _ _ _ Av c b o css hc hlb hA hat hk hs =>
 refine snd_go wf Try.func60 rfl rfl (n:=35) rfl (by kernel_rfl) rfl ?_
 intro a hn hg
 have hr:Try.f60.results.toList=[.tmp 6]:=rfl
 have g0:=hg 0
 have g1:=hg 1
 have g2:=hg 2
 clear hg
 simp only [List.getElem?_cons_zero,List.getElem?_cons_succ] at g0 g1 g2
 have hG:=own_new hb 24 [.slice Gv G.length gc]
 have hxg:=Ext.new h (CObj.cells ⟨[.slice Gv G.length gc],24,0,0,false⟩)
 have hbg:=Nat.le_succ_of_le (m:=h.next) hb
 have hP:=own_new (h:=h.newH (CObj.cells ⟨[.slice Gv G.length gc],24,0,0,false⟩)) hbg 52 [.string d,.string t,.slice Av l.length c]
 have hG1:=own_newH hG (CObj.cells ⟨[.string d,.string t,.slice Av l.length c],52,0,0,false⟩)
 have hx0:=hxg.trans (Ext.new _ (CObj.cells ⟨[.string d,.string t,.slice Av l.length c],52,0,0,false⟩))
 simp -dsimp only [go_sem,g0,g1,g2,next_newH]
 simp only [next_newH] at hP
 generalize (h.newH (CObj.cells ⟨[.slice Gv G.length gc],24,0,0,false⟩)).newH (CObj.cells ⟨[.string d,.string t,.slice Av l.length c],52,0,0,false⟩)=h2 at hP hG1 hx0 ⊢
 have hb2:h2.base≤h2.next:=by rw [hx0.base];exact Nat.le_trans hb hx0.next
 have hrom2:h2.rom=r:=hx0.rom.trans hrom
 have hE2:=own_ext hx0 hE
 have e:idleB (emf (nms G) em) ⟨d,t,l⟩=((decide (d.data.toList=[109,97,110,121])&&mayHead (emf (nms G) em) l)||idleL (emf (nms G) em) l):=by unfold idleB;rfl
 refine Dw_text (n:=35) [[],[0],[0,1],[0,1,2],[0,1,2,3],[0,1,2,3],[0,1,2,3],[0,1,2,3,6],[0,1,2,3,6,7],[0,1,2,3,6,7,8],[0,1,2,3,4,5,6,7,8,9],[0,1,2,3,4,5,6,7,8,9,10]] (by simp -dsimp only [go_sem,hn]) (by kernel_rfl) ?_
 by_cases c1:d.data.toList=[109,97,110,121]
 ·have k1:decide (d.data.toList=[109,97,110,121])=true:=decide_eq_true c1
  have hl1:l.length=1:=hnm.2.1 (.inl c1)
  have hlt:0<l.length:=by omega
  have hpi:l[0]? = some l[0]:=List.getElem?_eq_getElem hlt
  obtain ⟨Av1,c1',hcs⟩:=(hk 0 _ hpi).shape
  have hat':=hat 0 _ hpi
  have hkid:=hk 0 _ hpi
  rw [hcs] at hat' hkid
  rw [Nat.zero_mul,Nat.add_zero] at hat'
  have hAv:=hA (ne_nil hlt)
  subst hAv
  have hix:indexAddr' Try.prog 50 (.slice (some ⟨b,o,none⟩) l.length c) (.int .i64 0)=some (.pointer (some ⟨b,o,none⟩)):=by
   have:=ia50 (b:=b) (o:=o) (c:=c) (n:=l.length) hlt
   simpa using this
  obtain ⟨_,h4,hs4,rfl,hx4⟩:=empty_c R (em:=em) (eb:=eb) hel _ l[0] (Nat.lt_succ_self _) h2 _ hrom2 hb2 hE2 hkid (hnk 0 _ hpi)
  simp -dsimp only [go_sem,undef',g1,load_own hP,loads_own hG1,loads_own hP,k1,hix,loads_ro (n:=3) hrom2 hat' rfl,sameN_sliceA R.hs,sameN_sliceA hkid.same]
  refine ⟨_,h4,hs4,?_⟩
  have hmh:mayHead (emf (nms G) em) l=mayB (emf (nms G) em) l[0]:=by
   match l,hlt with
   | x::l,_=>rfl
  simp -dsimp only [go_sem,undef']
  cases hm:mayB (emf (nms G) em) l[0] with
  | true =>
    simp -dsimp only [go_sem,hr,e,k1,hmh,hm,Bool.true_and,Bool.true_or]
    exact hx0.trans hx4
  | false =>
    simp -dsimp only [go_sem,undef']
    refine idle2_loop R (d:=d) (t:=t) (l:=l) (c:=c) (gp:=h.next) (pb:=h.next+1) (eb:=eb) (em:=em) ih hnk hlb hA hat hk (by simp -dsimp only [go_sem,hn]) (hx4.rom.trans hrom2) (by rw [hx4.base];exact Nat.le_trans hb2 hx4.next) (own_ext hx4 hE2) (own_ext hx4 hG1) (own_ext hx4 hP) (by simp -dsimp only [go_sem,g1]) (by simp -dsimp only [go_sem]) (by simp -dsimp only [go_sem]) (by simp -dsimp only [go_sem]) (fun a1 h3 hx3 hf => ?_) (fun a1 h3 hx3 hf h4 => ?_)
    ·simp -dsimp only [go_sem,hr,e,k1,hmh,hm,hf,Bool.true_and,Bool.false_or]
     exact (hx0.trans hx4).trans hx3
    ·simp -dsimp only [go_sem,hr,e,k1,hmh,hm,hf,h4,Bool.true_and,Bool.false_or]
     exact (hx0.trans hx4).trans hx3
 ·have k1:decide (d.data.toList=[109,97,110,121])=false:=decide_eq_false c1
  simp -dsimp only [go_sem,undef',g1,load_own hP,k1]
  refine idle2_loop R (d:=d) (t:=t) (l:=l) (c:=c) (gp:=h.next) (pb:=h.next+1) (eb:=eb) (em:=em) ih hnk hlb hA hat hk (by simp -dsimp only [go_sem,hn]) hrom2 hb2 hE2 hG1 hP (by simp -dsimp only [go_sem,g1]) (by simp -dsimp only [go_sem]) (by simp -dsimp only [go_sem]) (by simp -dsimp only [go_sem]) (fun a1 h3 hx3 hf => ?_) (fun a1 h3 hx3 hf h4 => ?_)
  ·simp -dsimp only [go_sem,hr,e,k1,hf,Bool.false_and,Bool.false_or]
   exact hx0.trans hx3
  ·simp -dsimp only [go_sem,hr,e,k1,hf,h4,Bool.false_and,Bool.false_or]
   exact hx0.trans hx3
end Go.Ev.G24
end
section
namespace Go.Ev.G24
open Go.RowKit Go.Proofs
variable {h h1 h2:Hp} {e:TypeId}
structure RowE (e:TypeId) (h:Hp) (b:Nat) (cs:List Value) (f:Nat):Prop where
 lo:h.base≤b
 lt:b<h.next
 row:∃bs g,h.row b=some ⟨cs,e,f,bs,g⟩
 fl:f≠0→f<h.nfam
theorem rowE_loads {b o n:Nat} {cs:List Value} {f:Nat} (k:RowE e h b cs f):h.loads ⟨b,o,none⟩ n=takeN (cs.drop o) n:=by
 obtain ⟨bs,g,hr⟩:=k.row
 cases n with
 | zero=>simp [Hp.loads,takeN]
 | succ n=>simp only [Hp.loads,blt_false k.lo,hr]
theorem rowE_load {b o:Nat} {cs:List Value} {f:Nat} (k:RowE e h b cs f):h.load ⟨b,o,none⟩=cs[o]? := by
 obtain ⟨bs,g,hr⟩:=k.row
 simp only [Hp.load,blt_false k.lo,hr]
theorem rowE_keep {S:Nat→Prop} (x:ExtS S h h1) {b:Nat} {cs:List Value} {f:Nat} (k:RowE e h b cs f) (hb:¬S b):RowE e h1 b cs f:=by
 refine ⟨by rw [x.base];exact k.lo,Nat.lt_of_lt_of_le k.lt x.next,?_,fun e=>Nat.lt_of_lt_of_le (k.fl e) x.nfam⟩
 obtain ⟨bs,g,hr⟩:=k.row
 refine ⟨bs,g,?_⟩
 unfold Hp.row at hr ⊢
 rw [x.objs b k.lt hb]
 cases hg:h.objs.get b with
 | none=>rw [hg] at hr;cases hr
 | some ob =>
   rw [hg] at hr
   cases ob with
   | cells r =>
     simp only at hr ⊢
     cases hf:r.fam with
     | zero=>rw [hf] at hr;exact hr
     | succ q =>
       rw [hf] at hr
       simp only at hr ⊢
       have hrf:r=⟨cs,e,f,bs,g⟩:=by
        split at hr
        ·split at hr
         ·injection hr
         ·cases hr
        ·cases hr
       have hfq:f=q+1:=by rw [←hf,hrf]
       rw [x.fams (q+1) (by rw [←hfq];exact k.fl (by omega))]
       exact hr
   | map es k=>cases hr
   | sIter s p=>cases hr
   | mIter a b c d=>cases hr
theorem rowE_obj {b:Nat} {cs:List Value} {f:Nat} (k:RowE e h b cs f):∃r,h.objs.get b=some (.cells r)∧r.e=e:=by
 obtain ⟨bs,g,hr⟩:=k.row
 unfold Hp.row at hr
 cases hg:h.objs.get b with
 | none=>rw [hg] at hr;cases hr
 | some ob =>
   rw [hg] at hr
   cases ob with
   | cells r =>
     refine ⟨r,rfl,?_⟩
     simp only at hr
     split at hr
     ·injection hr with hr;rw [hr]
     ·split at hr
      ·split at hr
       ·injection hr with hr;rw [hr]
       ·cases hr
      ·cases hr
   | map es k=>cases hr
   | sIter s p=>cases hr
   | mIter a b c d=>cases hr
theorem rowE_ne {b b':Nat} {cs c':List Value} {f:Nat} {e':TypeId} (k:RowE e h b cs f) (o:h.own b' e' c') (hne:e'≠e):b'≠b:=by
 rintro rfl
 obtain ⟨r,h1,h2⟩:=rowE_obj k
 rw [o.2.2] at h1
 injection h1 with h1
 injection h1 with h1
 rw [←h1] at h2
 exact hne h2
theorem takeN_all:∀(l:List Value),takeN l l.length=some l
 | []=>rfl
 | v::l=>by simp only [List.length_cons,takeN,takeN_all l]
def OwnE (e:TypeId) (h:Hp) (n0 f0:Nat) (cs:List Value) (v:Value):Prop:=(cs=[]∧v=.slice none 0 0) ∨
 ∃b f,cs≠[]∧v=.slice (some ⟨b,0,none⟩) cs.length cs.length∧RowE e h b cs f∧n0≤b∧(f≠0→f0≤f)
theorem OwnE.ext (x:Ext h h1) {n0 f0:Nat} {cs:List Value} {v:Value} (k:OwnE e h n0 f0 cs v):OwnE e h1 n0 f0 cs v:=by
 rcases k with ⟨rfl,rfl⟩|⟨b,f,hl,rfl,hr,hb,hf⟩
 ·exact .inl ⟨rfl,rfl⟩
 ·exact .inr ⟨b,f,hl,rfl,rowE_keep (x.toS (S:=fun _=>False)) hr (fun c=>c),hb,hf⟩
theorem OwnE.len {n0 f0:Nat} {cs:List Value} {v:Value} (k:OwnE e h n0 f0 cs v):∃A,v=.slice A cs.length cs.length:=by
 rcases k with ⟨rfl,rfl⟩|⟨b,f,hl,rfl,_⟩<;>exact ⟨_,rfl⟩
set_option maxRecDepth 10000 in
theorem ownE_append {t:TypeId} {z x:Value} (hu:Try.prog.underlying t=some (.slice e)) (hs:sizeOf' Try.prog e=some 1) (hz:zero' Try.prog e=some z) (hzl:Nat.beq z.cells.toList.length 1=true∧0<1)
  (hby:(match Try.prog.info? e with|some i=>Nat.ble i.bytes 100000&&Nat.blt 0 i.bytes|none=>false)=true) (hni:noInt Try.prog [t]=true) (hx1:oneCell x=true)
  {n0 f0:Nat} {cs:List Value} {v:Value} (k:OwnE e h n0 f0 cs v) {wb:Nat} (hw:h.own wb e [x]) (hb:h.base≤h.next) (hn0:n0≤h.next) (hf0:f0≤h.nfam) (hsz:cs.length≤100000) :
  ∃v' h',append' Try.prog h [t,t] [v,.slice (some ⟨wb,0,none⟩) 1 1]=some (v',h')∧OwnE e h' n0 f0 (cs++[x]) v'∧(∀(S:Nat→Prop) (h0:Hp),ExtS S h0 h→h0.next≤n0→h0.nfam≤f0→ExtS S h0 h') ∧
   (∀b' e' c',e'≠e→h.own b' e' c'→h'.own b' e' c')∧h.next≤h'.next:=by
 have hf1:first' h 1 1 (.slice (some ⟨wb,0,none⟩) 1 1)=some [x]:=by
  simp only [first',loads_own hw]
  rfl
 rcases k with ⟨rfl,rfl⟩|⟨b,f,hl,rfl,hr,hb0,hf⟩
 ·have hx:=Ext.new h (CObj.cells { c:=[x],e:=e,fam:=0,base:=0,grown:=true })
  refine ⟨.slice (some ⟨h.next,0,none⟩) 1 1,h.newH (CObj.cells { c:=[x],e:=e,fam:=0,base:=0,grown:=true }),?_,?_,fun S h0 q _ _=>q.trans hx.toS,fun b' e' c' _ o=>own_ext hx o,hx.next⟩
  ·rw [append_of hu hs hz hzl hby h (len:=0) (cap:=0) (n:=1) rfl hf1 (by decide) (Nat.le_refl _) (by simp [hx1]) rfl hni]
   have:Nat.ble (0+1) 0=false:=rfl
   simp only [apd,this,Hp.grownRow,new_eq]
  ·refine .inr ⟨h.next,0,by simp,rfl,⟨hb,Nat.lt_succ_self _,⟨0,true,?_⟩,fun e=>absurd rfl e⟩,hn0,fun e=>absurd rfl e⟩
   simp only [Hp.row,get_newH,if_true,List.nil_append]
 ·have hlen:0<cs.length:=List.length_pos_iff.2 hl
  obtain ⟨bs,g,hrow⟩:=hr.row
  have hld:h.loads ⟨b,0,none⟩ (cs.length*1)=some cs:=by
   rw [rowE_loads hr,List.drop_zero,Nat.mul_one]
   exact takeN_all _
  have hc:Nat.ble (cs.length+1) cs.length=false:=ble_false (by omega)
  have hbeq:Nat.beq e e=true:=by simp
  have happ:append' Try.prog h [t,t] [.slice (some ⟨b,0,none⟩) cs.length cs.length,.slice (some ⟨wb,0,none⟩) 1 1]=apd h e 1 (some ⟨b,0,none⟩) cs.length cs.length 1 [x] :=
   append_of hu hs hz hzl hby h rfl hf1 (by omega) (Nat.le_refl _) (by simp [hx1]) rfl hni
  have fin:∀(f':Nat) (h':Hp),apd h e 1 (some ⟨b,0,none⟩) cs.length cs.length 1 [x]=some (.slice (some ⟨h.next,0,none⟩) (cs.length+1) (cs.length+1),h')→RowE e h' h.next (cs++[x]) f'→(f'=f∧f≠0∨f'=h.nfam)→h'.base=h.base→h'.ro=h.ro→h'.next=h.next+1→h.nfam≤h'.nfam→(∀y,y<h.next→y≠b→h'.objs.get y=h.objs.get y)→(∀q,q<h.nfam→¬(q=f∧f≠0)→h'.fams.get q=h.fams.get q) →
    ∃v' h',append' Try.prog h [t,t] [.slice (some ⟨b,0,none⟩) cs.length cs.length,.slice (some ⟨wb,0,none⟩) 1 1]=some (v',h')∧OwnE e h' n0 f0 (cs++[x]) v'∧(∀(S:Nat→Prop) (h0:Hp),ExtS S h0 h→h0.next≤n0→h0.nfam≤f0→ExtS S h0 h')∧(∀b' e' c',e'≠e→h.own b' e' c'→h'.own b' e' c')∧h.next≤h'.next:=by
   intro f' h' a1 a2 a3 e1 e2 e3 e4 e5 e6
   have hf':f'≠0→f0≤f':=by
    intro c
    rcases a3 with ⟨rfl,q⟩|rfl
    ·exact hf q
    ·exact hf0
   refine ⟨_,h',by rw [happ,a1],.inr ⟨h.next,f',by simp,by simp,a2,hn0,hf'⟩,fun S h0 q q1 q2=>grow_extS q (Nat.le_trans q1 hb0) (fun c=>Nat.le_trans q2 (hf c)) e1 e2 e3 e4 e5 e6,fun b' e' c' hne o => ?_,by omega⟩
   have hbb:=rowE_ne hr o hne
   exact ⟨by rw [e1];exact o.1,by have:=o.2.1;omega,by rw [e5 b' o.2.1 hbb];exact o.2.2⟩
  cases hfe:f with
  | zero =>
    subst hfe
    refine fin h.nfam { h with
     objs:=(h.objs.put b (.cells ⟨cs,e,h.nfam,bs,g⟩)).put h.next (.cells ⟨cs++[x],e,h.nfam,bs+0,true⟩)
     next:=h.next+1
     fams:=h.fams.put h.nfam (⟨h.next,bs+0,bs+0+(cs++[x]).length⟩::stays b bs (bs+cs.length) (bs+0+cs.length*1))
     nfam:=h.nfam+1 } ?_ ?_ (.inr rfl) rfl rfl rfl (Nat.le_succ _) ?_ ?_
    ·simp only [apd,hc,hrow,hld,grow',hbeq]
    ·refine ⟨by have:=hr.lo;have:=hr.lt;show h.base≤h.next;omega,Nat.lt_succ_self _,⟨bs+0,true,?_⟩,fun _=>Nat.lt_succ_self _⟩
     simp only [Hp.row,Tr.get_put,if_true]
     cases hnf:h.nfam with
     | zero=>rfl
     | succ q=>simp only [Tr.get_put,if_true,List.any_cons,beq_nat,Bool.true_or]
    ·intro x hx hxb
     simp only [Tr.get_put,if_neg (Nat.ne_of_lt hx),if_neg hxb]
    ·intro q hq _
     simp only [Tr.get_put,if_neg (Nat.ne_of_lt hq)]
  | succ q0 =>
    subst hfe
    have hfm:∃l,h.fams.get (q0+1)=some l:=by
     have hrow2:=hrow
     unfold Hp.row at hrow2
     split at hrow2
     ·rename_i r hg
      split at hrow2
      ·rename_i e0
       injection hrow2 with hrow2
       rw [hrow2] at e0
       cases e0
      ·rename_i f0' e0
       split at hrow2
       ·rename_i l hl0
        split at hrow2
        ·injection hrow2 with hrow2
         rw [hrow2] at e0
         have e1:q0+1=f0'+1:=e0
         exact ⟨l,by rw [e1];exact hl0⟩
        ·cases hrow2
       ·cases hrow2
     ·cases hrow2
    obtain ⟨l,hl0⟩:=hfm
    refine fin (q0+1) { h with
     objs:=h.objs.put h.next (.cells ⟨cs++[x],e,q0+1,bs+0,true⟩)
     next:=h.next+1
     fams:=h.fams.put (q0+1) (⟨h.next,bs+0,bs+0+(cs++[x]).length⟩::l.filter fun m=>Nat.ble m.hi (bs+0+cs.length*1)) } ?_ ?_ (.inl ⟨rfl,by omega⟩) rfl rfl rfl (Nat.le_refl _) ?_ ?_
    ·simp only [apd,hc,hrow,hld,grow',hbeq,hl0]
    ·refine ⟨by have:=hr.lo;have:=hr.lt;show h.base≤h.next;omega,Nat.lt_succ_self _,⟨bs+0,true,?_⟩,fun e=>hr.fl e⟩
     simp only [Hp.row,Tr.get_put,if_true,List.any_cons,beq_nat,Bool.true_or]
    ·intro x hx _
     simp only [Tr.get_put,if_neg (Nat.ne_of_lt hx)]
    ·intro q hq hqf
     have:¬q=q0+1:=fun e=>hqf ⟨e,by omega⟩
     simp only [Tr.get_put,if_neg this]
theorem app108 {v x:Value} {wb n0 f0:Nat} {cs:List Value} (hx1:oneCell x=true) (k:OwnE 105 h n0 f0 cs v) (hw:h.own wb 105 [x]) (hb:h.base≤h.next) (hn0:n0≤h.next) (hf0:f0≤h.nfam) (hsz:cs.length≤100000) :
  ∃v' h',append' Try.prog h [108,108] [v,.slice (some ⟨wb,0,none⟩) 1 1]=some (v',h')∧OwnE 105 h' n0 f0 (cs++[x]) v'∧(∀(S:Nat→Prop) (h0:Hp),ExtS S h0 h→h0.next≤n0→h0.nfam≤f0→ExtS S h0 h') ∧
   (∀b' e' c',e'≠105→h.own b' e' c'→h'.own b' e' c')∧h.next≤h'.next :=
 ownE_append (e:=105) (t:=108) Try.underlying108 sz105 z105 (by exact ⟨rfl,by decide⟩) (by kernel_rfl) (by kernel_rfl) hx1 k hw hb hn0 hf0 hsz
theorem app25 {v x:Value} {wb n0 f0:Nat} {cs:List Value} (hx1:oneCell x=true) (k:OwnE 9 h n0 f0 cs v) (hw:h.own wb 9 [x]) (hb:h.base≤h.next) (hn0:n0≤h.next) (hf0:f0≤h.nfam) (hsz:cs.length≤100000) :
  ∃v' h',append' Try.prog h [25,25] [v,.slice (some ⟨wb,0,none⟩) 1 1]=some (v',h')∧OwnE 9 h' n0 f0 (cs++[x]) v'∧(∀(S:Nat→Prop) (h0:Hp),ExtS S h0 h→h0.next≤n0→h0.nfam≤f0→ExtS S h0 h') ∧
   (∀b' e' c',e'≠9→h.own b' e' c'→h'.own b' e' c')∧h.next≤h'.next :=
 ownE_append (e:=9) (t:=25) Try.underlying25 sz9 z9 (by exact ⟨rfl,by decide⟩) (by kernel_rfl) (by kernel_rfl) hx1 k hw hb hn0 hf0 hsz
end Go.Ev.G24
end
section
namespace Go.Ev.G24
open Go.RowKit Go.Proofs
variable {r:Ro} {h:Hp} {n0 tb n f:Nat} {bs:List Nat} {M:List (List Bool)}
structure MatR (h:Hp) (n0 tb n f:Nat) (bs:List Nat) (M:List (List Bool)):Prop where
 row:RowE 105 h tb (bs.map fun b=>.slice (some ⟨b,0,none⟩) n n) f
 lb:bs.length=n
 lM:M.length=n
 rows:∀(i b:Nat) (L:List Bool),bs[i]? = some b→M[i]? = some L→h.own b 4 (L.map .bool)∧L.length=n
 dis:∀i j b:Nat,bs[i]? = some b→bs[j]? = some b→i=j
 lo:n0≤tb∧∀i b:Nat,bs[i]? = some b→n0≤b
theorem MatR.at (k:MatR h n0 tb n f bs M) {i:Nat} (hi:i<n):∃b L,bs[i]? = some b∧M[i]? = some L∧h.own b 4 (L.map .bool)∧L.length=n∧h.load ⟨tb,i,none⟩=some (.slice (some ⟨b,0,none⟩) n n)∧∀j,j<n→h.load ⟨b,j,none⟩=some (.bool (getM M i j)):=by
 have hib:i<bs.length:=by rw [k.lb];exact hi
 have hiM:i<M.length:=by rw [k.lM];exact hi
 have h1:bs[i]? = some bs[i]:=List.getElem?_eq_getElem hib
 have h2:M[i]? = some M[i]:=List.getElem?_eq_getElem hiM
 obtain ⟨q1,q2⟩:=k.rows i _ _ h1 h2
 refine ⟨_,_,h1,h2,q1,q2,?_,?_⟩
 ·rw [rowE_load k.row,List.getElem?_map,h1];rfl
 ·intro j hj
  rw [load_own q1,List.getElem?_map,List.getElem?_eq_getElem (by rw [q2];exact hj)]
  simp only [getM,List.getD,h2,Option.getD_some,Option.map_some]
  rw [List.getElem?_eq_getElem (by rw [q2];exact hj)]
  rfl
theorem MatR.ext {h1:Hp} (x:Ext h h1) (k:MatR h n0 tb n f bs M):MatR h1 n0 tb n f bs M:=⟨rowE_keep (x.toS (S:=fun _=>False)) k.row (fun c=>c),k.lb,k.lM,fun i b L h1 h2=>⟨own_ext x (k.rows i b L h1 h2).1,(k.rows i b L h1 h2).2⟩,k.dis,k.lo⟩
theorem MatR.put (k:MatR h n0 tb n f bs M) {i j b:Nat} {L:List Bool} (h1:bs[i]? = some b) (h2:M[i]? = some L) (hj:j<n) (v:Bool) :
  h.stores ⟨b,j,none⟩ [.bool v]=some (h.put b (.cells ⟨(L.set j v).map .bool,4,0,0,false⟩))∧MatR (h.put b (.cells ⟨(L.set j v).map .bool,4,0,0,false⟩)) n0 tb n f bs (setM M i j v):=by
 obtain ⟨q1,q2⟩:=k.rows i _ _ h1 h2
 have ht:b≠tb:=rowE_ne k.row q1 (by decide)
 have hi:i<M.length:=by
  rcases Nat.lt_or_ge i M.length with h|h
  ·exact h
  ·rw [List.getElem?_eq_none h] at h2;cases h2
 have hg:M.getD i []=L:=by simp [List.getD,h2]
 refine ⟨stores_own q1 rfl (bool_put v (by rw [q2];exact hj)) (by simp),rowE_keep (S:=Only b) (((Ext.refl h).toS (S:=Only b)).put (b:=b) (.inr rfl) _) k.row (fun c=>ht c.symm),k.lb,by simp [setM,k.lM],?_,k.dis,k.lo⟩
 intro i' b' L' hb' hL'
 simp only [setM,hg,List.getElem?_set] at hL'
 by_cases e:i=i'
 ·subst e
  rw [h1] at hb'
  injection hb' with hb'
  subst hb'
  rw [if_pos rfl,if_pos hi] at hL'
  injection hL' with hL'
  subst hL'
  exact ⟨own_put_same q1 _,by simp [q2]⟩
 ·rw [if_neg e] at hL'
  obtain ⟨p1,p2⟩:=k.rows i' _ _ hb' hL'
  refine ⟨own_put p1 ?_ _,p2⟩
  intro e2
  subst e2
  exact e (k.dis _ _ _ h1 hb')
theorem setM_same (M:List (List Bool)) (i j:Nat):setM M i j (getM M i j)=M:=by
 unfold setM getM
 apply List.ext_getElem?
 intro q
 rw [List.getElem?_set]
 split
 ·rename_i e
  subst e
  split
  ·rename_i hq
   rw [List.getElem?_eq_getElem hq]
   congr 1
   have hD:M.getD i []=M[i]:=by simp [List.getD,List.getElem?_eq_getElem hq]
   rw [hD]
   apply List.ext_getElem?
   intro z
   rw [List.getElem?_set]
   split
   ·rename_i e2
    subst e2
    split
    ·rename_i hz
     rw [List.getElem?_eq_getElem hz]
     simp [List.getD,List.getElem?_eq_getElem hz]
    ·rename_i hz
     rw [List.getElem?_eq_none (by omega)]
   ·rfl
  ·rename_i hq
   rw [List.getElem?_eq_none (by omega)]
 ·rfl
theorem cellW_stop {M:List (List Bool)} {k i j:Nat} (h:getM M i k=false):cellW k i j M=M:=by
 unfold cellW
 rw [h,Bool.false_and,Bool.or_false]
 exact setM_same M i j
theorem upto_stop {M:List (List Bool)} {k i j:Nat} (h:getM (upto (cellW k i) j M) i k=false):∀n,j≤n→upto (cellW k i) n M=upto (cellW k i) j M:=by
 intro n hn
 induction hn with
 | refl=>rfl
 | step hn ih=>rw [upto,ih,cellW_stop h]
set_option maxHeartbeats 4000000 in
set_option maxRecDepth 10000 in
theorem rr_j {k i:Nat} (hk:k<n) (hi:i<n) (hn1:n≤1000) {hA:Hp} (hAn:hA.next=n0) {a:Ev.A} {Q:Ex→Ev.A→Hp→Prop} (hn:a.n=126) (hX:Ext hA h) (hM:MatR h n0 tb n f bs M) {x1 x4:Value}
  (g1:a.get 1=x1) (g4:a.get 4=x4) (g5:a.get 5=.slice (some ⟨tb,0,none⟩) n n) (g8:a.get 8=.int .i64 k) (g9:a.get 9=.int .i64 i) (g10:a.get 10=.int .i64 0)
  (hq:∀a1 h1,a1.n=126→Ext hA h1→MatR h1 n0 tb n f bs (upto (cellW k i) n M)→a1.get 1=x1→a1.get 4=x4→a1.get 5=.slice (some ⟨tb,0,none⟩) n n→a1.get 8=.int .i64 k→a1.get 9=.int .i64 i→Q (.exit 6) a1 h1) :
  Th Try.prog (bodyAt Try.f29 [1,1,1,1,1,0,1,0,0,1,0,0,1,0,0,1,0,0,1,0]) a h Q ⟨⟩ ⟨⟩:=by
 simp only [bodyAt,nav,Try.f29]
 refine loop_go (n:=126) (by kernel_rfl) (fun m' a' h'=>∃j:Nat,j≤n∧m'=n - j∧Ext hA h'∧MatR h' n0 tb n f bs (upto (cellW k i) j M) ∧
  a'.get 1=x1∧a'.get 4=x4∧a'.get 5=.slice (some ⟨tb,0,none⟩) n n∧a'.get 8=.int .i64 k∧a'.get 9=.int .i64 i∧a'.get 10=.int .i64 j) ?_ n _ _ hn ⟨0,Nat.zero_le _,rfl,hX,hM,g1,g4,g5,g8,g9,g10⟩
 rintro m' a' h' hn' ⟨j,hj,rfl,hx,hM',e1,e4,e5,e8,e9,e10⟩
 by_cases hlt:j<n
 ·have hi1:decide ((j:Int)<(n:Int))=true:=decide_eq_true (Int.ofNat_lt.2 hlt)
  obtain ⟨bi,Li,q1,q2,q3,q4,q5,q6⟩:=hM'.at hi
  obtain ⟨bk',Lk,p1,p2,p3,p4,p5,p6⟩:=hM'.at hk
  have q6j:=q6 j hlt
  have q6k:=q6 k hk
  have p6j:=p6 j hlt
  cases hik:getM (upto (cellW k i) j M) i k with
  | false =>
    rw [hik] at q6k
    simp -dsimp only [go_sem,undef',e1,e4,e5,e8,e9,e10,hi1,ia108 hi,ia105 hk,q5,q6k]
    refine hq _ _ (by simp -dsimp only [go_sem,hn']) hx ?_ (by simp -dsimp only [go_sem,e1]) (by simp -dsimp only [go_sem,e4]) (by simp -dsimp only [go_sem,e5]) (by simp -dsimp only [go_sem,e8]) (by simp -dsimp only [go_sem,e9])
    rw [upto_stop hik n hj]
    exact hM'
  | true =>
    rw [hik] at q6k
    simp -dsimp only [go_sem,undef',e1,e4,e5,e8,e9,e10,hi1,ia108 hi,ia105 hk,q5,q6k]
    refine Dw_text (n:=126) [[],[],[0,1],[0,1,2],[],[],[],[5,6],[5,6,7],[],[5,6,7,8,9],[5,6,7,8,9,10],[5,6,7,8,9,10,11],[5,6,7,8,9,10,11,12],[5,6,7,8,9,10,11,12],[5,6,7,8,9,10,11,12,13,14],[5,6,7,8,9,10,11,12,13,14,15],[5,6,7,8,9,10,11,12],[5,6,7,8,9,10,11,12,13,14,15,16,17],[5,6,7,8,9,10,11,12,13,14,15,16,17,18],[5,6,7,8,9,10,11,12,13,14,15,16,17,18,19],[0,1,2,3,4,5,6,7,8,9,10,11,12,13,14,15,16,17,18,19,20],[0,1,2,3,4,5,6,7,8,9,10,11,12,13,14,15,16,17,18,19,20,21]] (by simp -dsimp only [go_sem,hn']) (by kernel_rfl) ?_
    obtain ⟨s1,s2⟩:=hM'.put q1 q2 hlt (getM (upto (cellW k i) j M) i j||(getM (upto (cellW k i) j M) i k&&getM (upto (cellW k i) j M) k j))
    have hx2:=hx.put (b:=bi) (by rw [hAn];exact hM'.lo.2 _ _ q1) (.cells ⟨(Li.set j (getM (upto (cellW k i) j M) i j||(getM (upto (cellW k i) j M) i k&&getM (upto (cellW k i) j M) k j))).map .bool,4,0,0,false⟩)
    have fin:MatR (h'.put bi (.cells ⟨(Li.set j (getM (upto (cellW k i) j M) i j||(getM (upto (cellW k i) j M) i k&&getM (upto (cellW k i) j M) k j))).map .bool,4,0,0,false⟩)) n0 tb n f bs (upto (cellW k i) (j+1) M):=s2
    rw [hik,Bool.true_and] at s1 fin hx2
    cases hij:getM (upto (cellW k i) j M) i j with
    | true =>
      rw [hij] at s1 fin q6j hx2
      rw [Bool.true_or] at s1 fin hx2
      simp -dsimp only [go_sem,undef',e1,e4,e5,e8,e9,e10,ia108 hi,ia108 hk,ia105 hlt,ia105 hk,q5,q6j,p5,p6j,s1,wrap64_succ hlt (Nat.le_trans hn1 (by decide))]
      exact ⟨n - (j+1),by omega,j+1,hlt,rfl,hx2,fin,rfl⟩
    | false =>
      rw [hij] at s1 fin q6j hx2
      rw [Bool.false_or] at s1 fin hx2
      simp -dsimp only [go_sem,undef',e1,e4,e5,e8,e9,e10,ia108 hi,ia108 hk,ia105 hlt,ia105 hk,q5,q6j,p5,p6j,s1,wrap64_succ hlt (Nat.le_trans hn1 (by decide))]
      exact ⟨n - (j+1),by omega,j+1,hlt,rfl,hx2,fin,rfl⟩
 ·have hi0:decide ((j:Int)<(n:Int))=false:=decide_eq_false (by omega)
  have hjn:j=n:=by omega
  subst hjn
  simp -dsimp only [go_sem,undef',e5,e10,hi0]
  exact hq _ _ (by simp -dsimp only [go_sem,hn']) hx hM' (by simp -dsimp only [go_sem,e1]) (by simp -dsimp only [go_sem,e4]) (by simp -dsimp only [go_sem,e5]) (by simp -dsimp only [go_sem,e8]) (by simp -dsimp only [go_sem,e9])
set_option maxHeartbeats 2000000 in
set_option maxRecDepth 10000 in
theorem rr_i {k:Nat} (hk:k<n) (hn1:n≤1000) {hA:Hp} (hAn:hA.next=n0) {a:Ev.A} {Q:Ex→Ev.A→Hp→Prop} (hn:a.n=126) (hX:Ext hA h) (hM:MatR h n0 tb n f bs M) {x1 x4:Value}
  (g1:a.get 1=x1) (g4:a.get 4=x4) (g5:a.get 5=.slice (some ⟨tb,0,none⟩) n n) (g8:a.get 8=.int .i64 k) (g9:a.get 9=.int .i64 0)
  (hq:∀a1 h1,a1.n=126→Ext hA h1→MatR h1 n0 tb n f bs (upto (fun i=>upto (cellW k i) n) n M)→a1.get 1=x1→a1.get 4=x4→a1.get 5=.slice (some ⟨tb,0,none⟩) n n→a1.get 8=.int .i64 k→Q (.exit 4) a1 h1) :
  Th Try.prog (bodyAt Try.f29 [1,1,1,1,1,0,1,0,0,1,0,0,1,0]) a h Q ⟨⟩ ⟨⟩:=by
 simp only [bodyAt,nav,Try.f29]
 refine loop_go (n:=126) (by kernel_rfl) (fun m' a' h'=>∃j:Nat,j≤n∧m'=n - j∧Ext hA h'∧MatR h' n0 tb n f bs (upto (fun i=>upto (cellW k i) n) j M) ∧
  a'.get 1=x1∧a'.get 4=x4∧a'.get 5=.slice (some ⟨tb,0,none⟩) n n∧a'.get 8=.int .i64 k∧a'.get 9=.int .i64 j) ?_ n _ _ hn ⟨0,Nat.zero_le _,rfl,hX,hM,g1,g4,g5,g8,g9⟩
 rintro m' a' h' hn' ⟨j,hj,rfl,hx,hM',e1,e4,e5,e8,e9⟩
 by_cases hlt:j<n
 ·have hi1:decide ((j:Int)<(n:Int))=true:=decide_eq_true (Int.ofNat_lt.2 hlt)
  simp -dsimp only [go_sem,e1,e4,e5,e8,e9,hi1]
  refine rr_j (x1:=x1) (x4:=x4) hk hlt hn1 hAn (by simp -dsimp only [go_sem,hn']) hx hM' (by simp -dsimp only [go_sem,e1]) (by simp -dsimp only [go_sem,e4]) (by simp -dsimp only [go_sem,e5]) (by simp -dsimp only [go_sem,e8]) (by simp -dsimp only [go_sem,e9]) (by simp -dsimp only [go_sem]) (fun a1 h1 hn1' hx1 hM1 f1 f4 f5 f8 f9 => ?_)
  simp -dsimp only [go_sem,f9,wrap64_succ hlt (Nat.le_trans hn1 (by decide))]
  exact ⟨n - (j+1),by omega,j+1,hlt,rfl,hx1,hM1,f1,f4,f5,f8,rfl⟩
 ·have hi0:decide ((j:Int)<(n:Int))=false:=decide_eq_false (by omega)
  have hjn:j=n:=by omega
  subst hjn
  simp -dsimp only [go_sem,e5,e9,hi0]
  exact hq _ _ (by simp -dsimp only [go_sem,hn']) hx hM' (by simp -dsimp only [go_sem,e1]) (by simp -dsimp only [go_sem,e4]) (by simp -dsimp only [go_sem,e5]) (by simp -dsimp only [go_sem,e8])
set_option maxHeartbeats 2000000 in
set_option maxRecDepth 10000 in
theorem rr_k (hn1:n≤1000) {hA:Hp} (hAn:hA.next=n0) {a:Ev.A} {Q:Ex→Ev.A→Hp→Prop} (hn:a.n=126) (hX:Ext hA h) (hM:MatR h n0 tb n f bs M) {x1 x4:Value}
  (g1:a.get 1=x1) (g4:a.get 4=x4) (g5:a.get 5=.slice (some ⟨tb,0,none⟩) n n) (g8:a.get 8=.int .i64 0)
  (hq:∀a1 h1,a1.n=126→Ext hA h1→MatR h1 n0 tb n f bs (warshall n M)→a1.get 1=x1→a1.get 4=x4→a1.get 5=.slice (some ⟨tb,0,none⟩) n n→Q (.exit 2) a1 h1) :
  Th Try.prog (bodyAt Try.f29 [1,1,1,1,1,0,1,0]) a h Q ⟨⟩ ⟨⟩:=by
 simp only [bodyAt,nav,Try.f29]
 refine loop_go (n:=126) (by kernel_rfl) (fun m' a' h'=>∃j:Nat,j≤n∧m'=n - j∧Ext hA h'∧MatR h' n0 tb n f bs (upto (fun k=>upto (fun i=>upto (cellW k i) n) n) j M) ∧
  a'.get 1=x1∧a'.get 4=x4∧a'.get 5=.slice (some ⟨tb,0,none⟩) n n∧a'.get 8=.int .i64 j) ?_ n _ _ hn ⟨0,Nat.zero_le _,rfl,hX,hM,g1,g4,g5,g8⟩
 rintro m' a' h' hn' ⟨j,hj,rfl,hx,hM',e1,e4,e5,e8⟩
 by_cases hlt:j<n
 ·have hi1:decide ((j:Int)<(n:Int))=true:=decide_eq_true (Int.ofNat_lt.2 hlt)
  simp -dsimp only [go_sem,e1,e4,e5,e8,hi1]
  refine rr_i (x1:=x1) (x4:=x4) hlt hn1 hAn (by simp -dsimp only [go_sem,hn']) hx hM' (by simp -dsimp only [go_sem,e1]) (by simp -dsimp only [go_sem,e4]) (by simp -dsimp only [go_sem,e5]) (by simp -dsimp only [go_sem,e8]) (by simp -dsimp only [go_sem]) (fun a1 h1 hn1' hx1 hM1 f1 f4 f5 f8 => ?_)
  simp -dsimp only [go_sem,f8,wrap64_succ hlt (Nat.le_trans hn1 (by decide))]
  exact ⟨n - (j+1),by omega,j+1,hlt,rfl,hx1,hM1,f1,f4,f5,rfl⟩
 ·have hi0:decide ((j:Int)<(n:Int))=false:=decide_eq_false (by omega)
  have hjn:j=n:=by omega
  subst hjn
  simp -dsimp only [go_sem,e5,e8,hi0]
  exact hq _ _ (by simp -dsimp only [go_sem,hn']) hx hM' (by simp -dsimp only [go_sem,e1]) (by simp -dsimp only [go_sem,e4]) (by simp -dsimp only [go_sem,e5])
end Go.Ev.G24
end
section
namespace Go.Ev.G24
open Go.RowKit Go.Proofs
variable {r:Ro}
structure MatS (h:Hp) (n0 n i:Nat) (bs:List Nat) (M:List (List Bool)):Prop where
 lb:bs.length=i
 lM:M.length=i
 rows:∀(j b:Nat) (L:List Bool),bs[j]? = some b→M[j]? = some L→h.own b 4 (L.map .bool)∧L.length=n
 dis:∀i j b:Nat,bs[i]? = some b→bs[j]? = some b→i=j
 lo:∀i b:Nat,bs[i]? = some b→n0≤b∧b<h.next
theorem snoc_get {α:Type} {l:List α} {x y:α} {i:Nat} (h:(l++[x])[i]? = some y):l[i]? = some y∨(i=l.length∧y=x):=by
 rcases Nat.lt_or_ge i l.length with c|c
 ·rw [List.getElem?_append_left c] at h;exact .inl h
 ·rw [List.getElem?_append_right c] at h
  cases hj:i - l.length with
  | zero=>rw [hj] at h;simp at h;exact .inr ⟨by omega,h.symm⟩
  | succ q=>rw [hj] at h;simp at h
theorem get_lt' {α:Type} {l:List α} {i:Nat} {x:α} (h:l[i]? = some x):i<l.length:=(List.getElem?_eq_some_iff.1 h).1
theorem MatS.more {h h1:Hp} {n0 n i:Nat} {bs:List Nat} {M:List (List Bool)} (k:MatS h n0 n i bs M) (hk:∀b' e' c',e'≠105→h.own b' e' c'→h1.own b' e' c') (hnx:h.next≤h1.next) {b:Nat} {L:List Bool} (hb:h.next≤b) (hn0:n0≤b) (ho:h1.own b 4 (L.map .bool)) (hL:L.length=n):MatS h1 n0 n (i+1) (bs++[b]) (M++[L]):=by
 refine ⟨by simp [k.lb],by simp [k.lM],?_,?_,?_⟩
 ·intro j b' L' h1' h2'
  rcases snoc_get h1' with c|⟨c1,c2⟩
  ·rw [List.getElem?_append_left (by have:=get_lt' c;rw [k.lM,←k.lb];exact this)] at h2'
   obtain ⟨p1,p2⟩:=k.rows j b' L' c h2'
   exact ⟨hk _ _ _ (by decide) p1,p2⟩
  ·subst c2
   rw [c1,k.lb,←k.lM] at h2'
   simp at h2'
   subst h2'
   exact ⟨ho,hL⟩
 ·intro x y b' h1' h2'
  rcases snoc_get h1' with c|⟨c1,c2⟩<;>rcases snoc_get h2' with d|⟨d1,d2⟩
  ·exact k.dis _ _ _ c d
  ·subst d2;have:=(k.lo _ _ c).2;omega
  ·subst c2;have:=(k.lo _ _ d).2;omega
  ·omega
 ·intro x b' h1'
  rcases snoc_get h1' with c|⟨c1,c2⟩
  ·have:=k.lo _ _ c;exact ⟨this.1,Nat.lt_of_lt_of_le this.2 hnx⟩
  ·subst c2;exact ⟨hn0,ho.2.1⟩
set_option maxHeartbeats 4000000 in
set_option maxRecDepth 10000 in
theorem rr_rows {l:List Rule} {Av:Option Addr} {c b o gp eb:Nat} {css:Nat→List Value} (R:RoRules r l Av c b o css) (hrg:∀(i:Nat) (x:Rule),l[i]? = some x→rightP (nms l) x.body=true) {em:List Bool} (hel:em.length=l.length)
  {hA:Hp} (hrom:hA.rom=r) (hbA:hA.base≤hA.next) (hE:hA.own eb 4 (em.map .bool)) (hP:hA.own gp 24 [.slice Av l.length c]) {a:Ev.A} {Q:Ex→Ev.A→Hp→Prop} (hn:a.n=126)
  (g1:a.get 1=.pointer (some ⟨gp,0,none⟩)) (g4:a.get 4=.slice (some ⟨eb,0,none⟩) l.length l.length) (g5:a.get 5=.slice none 0 0) (g6:a.get 6=.int .i64 0)
  (hq:∀a1 h1 bs v,a1.n=126→Ext hA h1→MatS h1 hA.next l.length l.length bs (l.map (rowB l em))→OwnE 105 h1 hA.next hA.nfam (bs.map fun b=>.slice (some ⟨b,0,none⟩) l.length l.length) v→a1.get 1=.pointer (some ⟨gp,0,none⟩)→a1.get 4=.slice (some ⟨eb,0,none⟩) l.length l.length→a1.get 5=v→Q (.exit 0) a1 h1) :
  Th Try.prog (bodyAt Try.f29 [1,1,1,1,0,1,0]) a hA Q ⟨⟩ ⟨⟩:=by
 simp only [bodyAt,nav,Try.f29]
 refine loop_go (n:=126) (by kernel_rfl) (fun m' a' h'=>∃(j:Nat) (bs:List Nat) (v:Value),j≤l.length∧m'=l.length - j∧Ext hA h'∧MatS h' hA.next l.length j bs ((l.take j).map (rowB l em))∧OwnE 105 h' hA.next hA.nfam (bs.map fun b=>.slice (some ⟨b,0,none⟩) l.length l.length) v ∧
  a'.get 1=.pointer (some ⟨gp,0,none⟩)∧a'.get 4=.slice (some ⟨eb,0,none⟩) l.length l.length∧a'.get 5=v∧a'.get 6=.int .i64 j) ?_ l.length _ _ hn ⟨0,[],_,Nat.zero_le _,rfl,Ext.refl _,⟨rfl,rfl,fun _ _ _ e=>by simp at e,fun _ _ _ e=>by simp at e,fun _ _ e=>by simp at e⟩,.inl ⟨rfl,rfl⟩,g1,g4,g5,g6⟩
 rintro m' a' h' hn' ⟨j,bs,v,hj,rfl,hx,hM',hO',e1,e4,e5,e6⟩
 have hrom':h'.rom=r:=hx.rom.trans hrom
 have hb':h'.base≤h'.next:=by rw [hx.base];exact Nat.le_trans hbA hx.next
 have hP':=own_ext hx hP
 by_cases hlt:j<l.length
 ·have hi1:decide ((j:Int)<(l.length:Int))=true:=decide_eq_true (Int.ofNat_lt.2 hlt)
  have hpi:l[j]? = some l[j]:=List.getElem?_eq_getElem hlt
  obtain ⟨Av1,c1',hcs⟩:=(R.hk j _ hpi).shape
  have hat':=R.hat j _ hpi
  have hkid:=R.hk j _ hpi
  rw [hcs] at hat' hkid
  have hat2:=roAt_tail hat'
  have hAv:=R.hA (ne_nil hlt)
  subst hAv
  have hT:=own_new hb' 4 ((List.replicate l.length false).map .bool)
  have hX3:=Ext.new h' (CObj.cells { c:=(List.replicate l.length false).map Value.bool,e:=4,fam:=0,base:=0,grown:=false })
  have hb3:=Nat.le_succ_of_le hb'
  have hP3:=own_ext hX3 hP'
  have hE3:=own_ext (hx.trans hX3) hE
  simp -dsimp only [go_sem,e1,e4,e5,e6,hi1,load_own hP',ms105 l.length l.length (Nat.le_refl _) R.hb,repeat_bool]
  generalize hg3:h'.newH (CObj.cells { c:=(List.replicate l.length false).map Value.bool,e:=4,fam:=0,base:=0,grown:=false })=h3 at hT hX3 hP3 hE3 ⊢
  have hb3':h3.base≤h3.next:=by rw [hX3.base];exact Nat.le_trans hb' hX3.next
  have hen:eb≠h'.next:=by have:=hE.2.1;have:=hx.next;omega
  obtain ⟨_,h5,hs5,rfl,hx5,hown5⟩:=left_c R (em:=em) (eb:=eb) (tb:=h'.next) hel hen _ l[j].body (Nat.lt_succ_self _) h3 _ (List.replicate l.length false) (hX3.rom.trans hrom') hb3' hE3 hkid (hrg j _ hpi) hT (by simp)
  refine Dw_text (n:=126) [[],[],[],[2],[],[2,3,4],[2,3,4,5],[2,3,4,5,6],[],[0,1,2,3,4,5,6,7,8]] (by simp -dsimp only [go_sem,hn']) (by kernel_rfl) ?_
  simp -dsimp only [go_sem,e1,e4,e5,e6,loads_own hP3,load_own hP3,ia22 hlt,loads_ro (n:=3) (hX3.rom.trans hrom') hat2 rfl,sameN_sliceA R.hs,sameN_sliceA hkid.same]
  refine ⟨_,h5,hs5,?_⟩
  have hx35:Ext h' h5:=(hX3.toS.trans hx5).ext (fun q hq hs=>by
   have:q=h'.next:=hs
   omega)
  have hb5:h5.base≤h5.next:=by rw [hx35.base];exact Nat.le_trans hb' hx35.next
  have hW:=own_new hb5 105 [.slice (some ⟨h'.next,0,none⟩) l.length l.length]
  have hX6:=Ext.new h5 (CObj.cells ⟨[.slice (some ⟨h'.next,0,none⟩) l.length l.length],105,0,0,false⟩)
  have hO6:=(hO'.ext hx35).ext hX6
  have hx56:=hx35.trans hX6
  have hx06:=hx.trans hx56
  obtain ⟨v',h7,ha7,hO7,hext7,hk7,hn7⟩:=app108 rfl hO6 hW (by rw [hx06.base];exact Nat.le_trans hbA hx06.next) hx06.next hx06.nfam (by rw [List.length_map,hM'.lb];exact Nat.le_trans hj (Nat.le_trans R.hb (by decide)))
  have hx7:Ext hA h7:=(hext7 (fun _=>False) hA (hx06.toS) (Nat.le_refl _) (Nat.le_refl _)).ext (fun _ _ c=>c)
  simp -dsimp only [go_sem,e1,e4,e5,e6,bs108 1 (by decide),repeatN,builtin',ha7,wrap64_succ hlt (Nat.le_trans R.hb (by decide))]
  have htk:(l.take (j+1)).map (rowB l em)=(l.take j).map (rowB l em)++[rowB l em l[j]]:=by
   rw [List.take_succ_eq_append_getElem hlt,List.map_append];rfl
  refine ⟨l.length - (j+1),by omega,j+1,bs++[h'.next],v',hlt,rfl,hx7,?_,?_,rfl,rfl⟩
  ·rw [htk]
   have hL:(rowB l em l[j]).length=l.length:=by unfold rowB;rw [startB_len];simp
   exact hM'.more (fun b' e' c' hne ho=>hk7 _ _ _ hne (own_ext hx56 ho)) (Nat.le_trans hx56.next hn7) (Nat.le_refl _) hx.next (hk7 _ _ _ (by decide) (own_ext hX6 hown5)) hL
  ·rw [List.map_append];exact hO7
 ·have hi0:decide ((j:Int)<(l.length:Int))=false:=decide_eq_false (by omega)
  have hjn:j=l.length:=by omega
  subst hjn
  rw [List.take_length] at hM'
  simp -dsimp only [go_sem,e1,e6,hi0,load_own hP']
  exact hq _ _ bs v (by simp -dsimp only [go_sem,hn']) hx hM' hO' (by simp -dsimp only [go_sem,e1]) (by simp -dsimp only [go_sem,e4]) (by simp -dsimp only [go_sem,e5])
def pickN:List Rule→List Bool→List ByteArray
 | x::l,b::bs=>if b then x.name::pickN l bs else pickN l bs
 | _,_=>[]
theorem pickN_snoc:∀(l:List Rule) (bs:List Bool) (i:Nat) (hi:i<l.length) (hb:i<bs.length),pickN (l.take (i+1)) (bs.take (i+1))=pickN (l.take i) (bs.take i)++(if bs[i] then [l[i].name] else [])
 | x::l,b::bs,0,_,_=>by
   simp only [List.take_succ_cons,List.take_zero,pickN,List.getElem_cons_zero,List.nil_append]
 | x::l,b::bs,i+1,hi,hb=>by
   have ih:=pickN_snoc l bs i (by simpa using hi) (by simpa using hb)
   simp only [List.take_succ_cons,pickN,List.getElem_cons_succ] at ih ⊢
   rw [ih]
   cases b<;>simp
 | [],_,_,hi,_=>absurd hi (Nat.not_lt_zero _)
 | _::_,[],_,_,hb=>absurd hb (Nat.not_lt_zero _)
set_option maxHeartbeats 4000000 in
set_option maxRecDepth 10000 in
theorem rr_out {l:List Rule} {Av:Option Addr} {c b o gp eb tb f:Nat} {css:Nat→List Value} (R:RoRules r l Av c b o css) (hnm:∀(i:Nat) (x:Rule),l[i]? = some x→named (nms l) x.body) {em:List Bool} (hel:em.length=l.length)
  {hA h:Hp} {n0 f0:Nat} {bs:List Nat} (hrom:hA.rom=r) (hbA:hA.base≤hA.next) (hn0:n0=hA.next) (hf0:f0=hA.nfam) (hE:hA.own eb 4 (em.map .bool)) (hP:hA.own gp 24 [.slice Av l.length c]) (hX:Ext hA h) (hM:MatR h n0 tb l.length f bs (closedM l em)) {a:Ev.A} {Q:Ex→Ev.A→Hp→Prop} (hn:a.n=126)
  (g1:a.get 1=.pointer (some ⟨gp,0,none⟩)) (g4:a.get 4=.slice (some ⟨eb,0,none⟩) l.length l.length) (g5:a.get 5=.slice (some ⟨tb,0,none⟩) l.length l.length) (g11:a.get 11=.slice none 0 0) (g12:a.get 12=.int .i64 0)
  (hq:∀a1 h1 v,a1.n=126→Ext hA h1→OwnE 9 h1 h.next h.nfam ((pickN l (recB l em)).map .string) v→a1.get 11=v→Q (.exit 8) a1 h1) :
  Th Try.prog (bodyAt Try.f29 [1,1,1,1,1,1,1,0,1,0]) a h Q ⟨⟩ ⟨⟩:=by
 simp only [bodyAt,nav,Try.f29]
 refine loop_go (n:=126) (by kernel_rfl) (fun m' a' h'=>∃(j:Nat) (v:Value),j≤l.length∧m'=l.length - j∧Ext h h'∧OwnE 9 h' h.next h.nfam ((pickN (l.take j) ((recB l em).take j)).map .string) v ∧
  a'.get 1=.pointer (some ⟨gp,0,none⟩)∧a'.get 4=.slice (some ⟨eb,0,none⟩) l.length l.length∧a'.get 5=.slice (some ⟨tb,0,none⟩) l.length l.length∧a'.get 11=v∧a'.get 12=.int .i64 j) ?_ l.length _ _ hn ⟨0,_,Nat.zero_le _,rfl,Ext.refl _,.inl ⟨by simp [pickN],rfl⟩,g1,g4,g5,g11,g12⟩
 rintro m' a' h' hn' ⟨j,v,hj,rfl,hx,hO',e1,e4,e5,e11,e12⟩
 have hxA:=hX.trans hx
 have hrom':h'.rom=r:=hxA.rom.trans hrom
 have hb':h'.base≤h'.next:=by rw [hxA.base];exact Nat.le_trans hbA hxA.next
 have hP':=own_ext hxA hP
 have hE':=own_ext hxA hE
 have hM':=hM.ext hx
 by_cases hlt:j<l.length
 ·have hi1:decide ((j:Int)<(l.length:Int))=true:=decide_eq_true (Int.ofNat_lt.2 hlt)
  have hpi:l[j]? = some l[j]:=List.getElem?_eq_getElem hlt
  obtain ⟨Av1,c1',hcs⟩:=(R.hk j _ hpi).shape
  have hat':=R.hat j _ hpi
  have hkid:=R.hk j _ hpi
  rw [hcs] at hat' hkid
  have hat2:=roAt_tail hat'
  have hAv:=R.hA (ne_nil hlt)
  subst hAv
  obtain ⟨bj,Lj,q1,q2,q3,q4,q5,q6⟩:=hM'.at hlt
  have q6j:=q6 j hlt
  have hjr:j<(recB l em).length:=by rw [recB_len];exact hlt
  have hrq:(recB l em)[j]=(getM (closedM l em) j j||idleB (emf (nms l) em) l[j].body):=by simp [recB]
  have hsn:=pickN_snoc l (recB l em) j hlt hjr
  have hld:∀{h3:Hp},h3.rom=r→h3.load ⟨b,o+j*4,none⟩=some (.string l[j].name):=by
   intro h3 h3r
   have:=load_ro h3r hat' (j:=0) (v:=.string l[j].name) rfl
   simpa using this
  have next:∀{h3:Hp},Ext h' h3→(recB l em)[j]=true→∃v' h7,append' Try.prog (h3.newH (CObj.cells ⟨[.string l[j].name],9,0,0,false⟩)) [25,25] [v,.slice (some ⟨h3.next,0,none⟩) 1 1]=some (v',h7)∧Ext h h7∧OwnE 9 h7 h.next h.nfam ((pickN (l.take (j+1)) ((recB l em).take (j+1))).map .string) v':=by
   intro h3 hx3 hrt
   have hb3:h3.base≤h3.next:=by rw [hx3.base];exact Nat.le_trans hb' hx3.next
   have hW:=own_new hb3 9 [.string l[j].name]
   have hX6:=Ext.new h3 (CObj.cells ⟨[.string l[j].name],9,0,0,false⟩)
   have hx06:=hx.trans (hx3.trans hX6)
   have hplen:((pickN (l.take j) ((recB l em).take j)).map Value.string).length≤100000:=by
    have:∀(l:List Rule) (bs:List Bool),(pickN l bs).length≤l.length:=by
     intro l
     induction l with
     | nil=>intro bs;simp [pickN]
     | cons x l ih=>intro bs;cases bs with
       | nil=>simp [pickN]
       | cons b bs=>simp only [pickN];have:=ih bs;cases b<;>simp<;>omega
    have h9:=this (l.take j) ((recB l em).take j)
    rw [List.length_take] at h9
    rw [List.length_map]
    have:=R.hb
    omega
   obtain ⟨v',h7,ha7,hO7,hext7,hk7,hn7⟩:=app25 rfl ((hO'.ext hx3).ext hX6) hW (by rw [hX6.base];exact Nat.le_trans hb3 hX6.next) hx06.next hx06.nfam hplen
   refine ⟨v',h7,ha7,(hext7 (fun _=>False) h (hx06.toS) (Nat.le_refl _) (Nat.le_refl _)).ext (fun _ _ c=>c),?_⟩
   rw [hsn,hrt]
   simpa using hO7
  have stay:(recB l em)[j]=false→pickN (l.take (j+1)) ((recB l em).take (j+1))=pickN (l.take j) ((recB l em).take j):=by
   intro e
   rw [hsn,e]
   simp
  simp -dsimp only [go_sem,e1,e4,e5,e11,e12,hi1]
  refine Dw_text (n:=126) [[],[],[0,1],[0,1,2],[],[0,1,2,3,4],[0,1,2,3,4,5],[0,1,2,3,4,5,6],[0,1,2,3,4,5,6,7],[0,1,2,3,4,5,6,7],[0,1,2,3,4,5,6,7],[0,1,2,3,4,5,6,7,10],[0,1,2,3,4,5,6,7],[0,1,2,3,4,5,6,7,10,11,12],[0,1,2,3,4,5,6,7,10,11,12,13],[0,1,2,3,4,5,6,7,10,11,12,13,14],[0,1,2,3,4,5,6,7,8,9,10,11,12,13,14,15],[0,1,2,3,4,5,6,7,8,9,10,11,12,13,14,15,16]] (by simp -dsimp only [go_sem,hn']) (by kernel_rfl) ?_
  cases hjj:getM (closedM l em) j j with
  | true =>
    rw [hjj] at q6j hrq
    rw [Bool.true_or] at hrq
    obtain ⟨v',h7,ha7,hx7,hO7⟩:=next (Ext.refl h') hrq
    rw [←e11] at ha7
    simp -dsimp only [go_sem,undef',e1,e4,e5,e12,ia22 hlt,ia108 hlt,ia105 hlt,q5,q6j,load_own hP',hld hrom',bs25 1 (by decide),repeatN,builtin',ha7,wrap64_succ hlt (Nat.le_trans R.hb (by decide))]
    exact ⟨l.length - (j+1),by omega,j+1,v',hlt,rfl,hx7,hO7,rfl,rfl⟩
  | false =>
    rw [hjj] at q6j hrq
    rw [Bool.false_or] at hrq
    obtain ⟨_,h5,hs5,rfl,hx5⟩:=idle2_c R (em:=em) (eb:=eb) hel _ l[j].body (Nat.lt_succ_self _) h' _ hrom' hb' hE' hkid (hnm j _ hpi)
    simp -dsimp only [go_sem,undef',e1,e4,e5,e12,ia22 hlt,ia108 hlt,ia105 hlt,q5,q6j,load_own hP',loads_own hP',loads_ro (n:=3) hrom' hat2 rfl,sameN_sliceA R.hs,sameN_sliceA hkid.same]
    refine ⟨_,h5,hs5,?_⟩
    simp -dsimp only [go_sem,undef']
    cases hid:idleB (emf (nms l) em) l[j].body with
    | true =>
      rw [hid] at hrq
      obtain ⟨v',h7,ha7,hx7,hO7⟩:=next hx5 hrq
      rw [←e11] at ha7
      simp -dsimp only [go_sem,undef',e1,e4,e5,e12,ia22 hlt,load_own (own_ext hx5 hP'),hld (hx5.rom.trans hrom'),bs25 1 (by decide),repeatN,builtin',ha7,wrap64_succ hlt (Nat.le_trans R.hb (by decide))]
      exact ⟨l.length - (j+1),by omega,j+1,v',hlt,rfl,hx7,hO7,rfl,rfl⟩
    | false =>
      rw [hid] at hrq
      simp -dsimp only [go_sem,undef',e1,e4,e5,e12,wrap64_succ hlt (Nat.le_trans R.hb (by decide))]
      refine ⟨l.length - (j+1),by omega,j+1,v,hlt,rfl,hx.trans hx5,?_,e11,rfl⟩
      rw [stay hrq]
      exact hO'.ext hx5
 ·have hi0:decide ((j:Int)<(l.length:Int))=false:=decide_eq_false (by omega)
  have hjn:j=l.length:=by omega
  subst hjn
  simp -dsimp only [go_sem,e5,e12,hi0]
  refine hq _ _ v (by simp -dsimp only [go_sem,hn']) hxA ?_ (by simp -dsimp only [go_sem,e11])
  rw [List.take_length,List.take_of_length_le (by rw [recB_len];exact Nat.le_refl _)] at hO'
  exact hO'
end Go.Ev.G24
end
section
namespace Go.Ev.G24
open Go.RowKit Go.Proofs
variable {r:Ro}
def RecP (l:List Rule) (h:Hp) (v:Value) (h1:Hp):Prop:=Ext h h1∧(if rightG l=true then ∃(em:List Bool) (nv:Value) (n0 f0:Nat),Found l em∧v=.tuple #[nv,.int .i64 0]∧h.next≤n0∧h.nfam≤f0∧OwnE 9 h1 n0 f0 ((pickN l (recB l em)).map .string) nv
 else v=.tuple #[.slice none 0 0,.int .i64 240])
set_option maxHeartbeats 4000000 in
set_option maxRecDepth 10000 in
theorem refRec_c {l:List Rule} {Av:Option Addr} {c b o:Nat} {css:Nat→List Value} (R:RoRules r l Av c b o css) (hft:fitsG l) (h:Hp) (hrom:h.rom=r) (hb:h.base≤h.next) :
  ∃v h1,Snd Try.prog 29 [.agg #[.slice Av l.length c]] h v h1∧RecP l h v h1:=by
 refine snd_go wf Try.func29 rfl rfl (n:=126) rfl (by kernel_rfl) rfl ?_
 intro a hn hg
 have hr:Try.f29.results.toList=[.tmp 2,.tmp 3]:=rfl
 have g0:=hg 0
 clear hg
 simp only [List.getElem?_cons_zero,List.getElem?_cons_succ] at g0
 have hP:=own_new hb 24 [.slice Av l.length c]
 have hx0:=Ext.new h (CObj.cells ⟨[.slice Av l.length c],24,0,0,false⟩)
 have hb0:=Nat.le_succ_of_le (m:=h.next) hb
 simp -dsimp only [go_sem,g0,loads_own hP]
 generalize h.newH (CObj.cells ⟨[.slice Av l.length c],24,0,0,false⟩)=h2 at hP hx0 ⊢
 have hb2:h2.base≤h2.next:=by rw [hx0.base];exact Nat.le_trans hb hx0.next
 obtain ⟨_,h3,hs3,rfl,hx3⟩:=ref_Right_c R hft h2 (hx0.rom.trans hrom) hb2
 refine ⟨_,h3,hs3,?_⟩
 rw [refRightG_eq]
 have hP3:=own_ext hx3 hP
 have hx03:=hx0.trans hx3
 have hb3:h3.base≤h3.next:=by rw [hx03.base];exact Nat.le_trans hb hx03.next
 cases hrg:rightG l with
 | false =>
   simp -dsimp only [go_sem,hr]
   exact ⟨hx03,by rw [if_neg (by rw [hrg];simp)]⟩
 | true =>
   obtain ⟨hfr,hnm⟩:=rightG_named hrg
   have hrl:rightRs (nms l) l=true:=by
    have:=hrg
    rw [rightG,Bool.and_eq_true,Bool.and_eq_true] at this
    exact this.2
   have hpos:0<l.length:=by
    have:=hrg
    rw [rightG,Bool.and_eq_true,Bool.and_eq_true] at this
    have:=this.1.2
    simp at this
    exact List.length_pos_iff.2 this
   simp -dsimp only [go_sem,loads_own hP3]
   obtain ⟨_,h4,hs4,hx4,eb,em,rfl,heb,hE,hel,hF⟩:=empties_c R hnm h3 (hx03.rom.trans hrom) hb3
   refine ⟨_,h4,hs4,?_⟩
   have hx04:=hx03.trans hx4
   have hb4:h4.base≤h4.next:=by rw [hx04.base];exact Nat.le_trans hb hx04.next
   have hP4:=own_ext hx4 hP3
   try simp -dsimp only [go_sem]
   refine rr_rows R (rightRs_get hrl) (em:=em) (eb:=eb) (gp:=h.next) hel (hx04.rom.trans hrom) hb4 hE hP4 (by simp -dsimp only [go_sem,hn]) (by simp -dsimp only [go_sem]) (by simp -dsimp only [go_sem]) (by simp -dsimp only [go_sem]) (by simp -dsimp only [go_sem]) (fun a5 h5 bs v5 hn5 hx5 hM5 hO5 f1 f4 f5 => ?_)
   try simp -dsimp only [go_sem]
   rcases hO5 with ⟨e0,_⟩|⟨tb,f,hne,rfl,hrow,htb,hf⟩
   ·exfalso
    have:=congrArg List.length e0
    rw [List.length_map,hM5.lb,List.length_nil] at this
    omega
   rw [List.length_map,hM5.lb] at f5
   have hMR:MatR h5 h4.next tb l.length f bs (l.map (rowB l em)):=⟨hrow,hM5.lb,hM5.lM,hM5.rows,hM5.dis,htb,fun i b e=>(hM5.lo i b e).1⟩
   refine rr_k R.hb (hA:=h4) rfl (x1:=.pointer (some ⟨h.next,0,none⟩)) (x4:=.slice (some ⟨eb,0,none⟩) l.length l.length) (by simp -dsimp only [go_sem,hn5]) hx5 hMR (by simp -dsimp only [go_sem,f1]) (by simp -dsimp only [go_sem,f4]) (by simp -dsimp only [go_sem,f5]) (by simp -dsimp only [go_sem]) (fun a6 h6 hn6 hx6 hM6 k1 k4 k5 => ?_)
   simp -dsimp only [go_sem]
   refine rr_out R hnm (em:=em) (eb:=eb) (gp:=h.next) hel (hA:=h4) (hx04.rom.trans hrom) hb4 rfl rfl hE hP4 hx6 hM6 (by simp -dsimp only [go_sem,hn6]) (by simp -dsimp only [go_sem,k1]) (by simp -dsimp only [go_sem,k4]) (by simp -dsimp only [go_sem,k5]) (by simp -dsimp only [go_sem]) (by simp -dsimp only [go_sem]) (fun a7 h7 v7 hn7 hx7 hO7 q11 => ?_)
   simp -dsimp only [go_sem,q11,hr]
   refine ⟨hx04.trans hx7,?_⟩
   rw [if_pos hrg]
   exact ⟨em,v7,_,_,hF,rfl,Nat.le_trans hx04.next hx6.next,Nat.le_trans hx04.nfam hx6.nfam,hO7⟩
theorem pickN_nil:∀(l:List Rule) (bs:List Bool),bs.length=l.length→decide ((pickN l bs).length=0) = !bs.any (true == ·)
 | [],[],_=>rfl
 | x::l,b::bs,h=>by
   have ih:=pickN_nil l bs (by simpa using h)
   cases b
   ·simpa [pickN] using ih
   ·simp [pickN]
def FineP (l:List Rule) (h:Hp) (v:Value) (h1:Hp):Prop:=Ext h h1∧(if rightG l=true then ∃em:List Bool,Found l em∧v=.bool (fineB l em) else v=.bool false)
set_option maxHeartbeats 4000000 in
set_option maxRecDepth 10000 in
theorem refFine_c {l:List Rule} {Av:Option Addr} {c b o:Nat} {css:Nat→List Value} (R:RoRules r l Av c b o css) (hft:fitsG l) (h:Hp) (hrom:h.rom=r) (hb:h.base≤h.next) :
  ∃v h1,Snd Try.prog 38 [.agg #[.slice Av l.length c]] h v h1∧FineP l h v h1:=by
 refine snd_go wf Try.func38 rfl rfl (n:=17) rfl (by kernel_rfl) rfl ?_
 intro a hn hg
 have hr:Try.f38.results.toList=[.tmp 2]:=rfl
 have g0:=hg 0
 clear hg
 simp only [List.getElem?_cons_zero,List.getElem?_cons_succ] at g0
 have hP:=own_new hb 24 [.slice Av l.length c]
 have hx0:=Ext.new h (CObj.cells ⟨[.slice Av l.length c],24,0,0,false⟩)
 simp -dsimp only [go_sem,g0,loads_own hP]
 generalize h.newH (CObj.cells ⟨[.slice Av l.length c],24,0,0,false⟩)=h2 at hP hx0 ⊢
 have hb2:h2.base≤h2.next:=by rw [hx0.base];exact Nat.le_trans hb hx0.next
 obtain ⟨_,h3,hs3,hx3,hv⟩:=refRec_c R hft h2 (hx0.rom.trans hrom) hb2
 refine ⟨_,h3,hs3,?_⟩
 by_cases hrg:rightG l=true
 ·rw [if_pos hrg] at hv
  obtain ⟨em,nv,n0,f0,hF,rfl,_,_,hO⟩:=hv
  obtain ⟨A,rfl⟩:=hO.len
  have h00:decide ((0:Int)=0)=true:=rfl
  simp -dsimp only [go_sem,undef',h00,decide_true,hr]
  refine ⟨hx0.trans hx3,?_⟩
  rw [if_pos hrg]
  refine ⟨em,hF,?_⟩
  rw [fineB,←pickN_nil l _ (recB_len l em),List.length_map]
  congr 1
  rw [decide_eq_decide]
  omega
 ·rw [if_neg hrg] at hv
  subst hv
  have h24:decide ((240:Int)=0)=false:=rfl
  simp -dsimp only [go_sem,undef',h24,hr]
  exact ⟨hx0.trans hx3,by rw [if_neg hrg]⟩
end Go.Ev.G24
end
section
namespace Go.Ev.G24
open Go.RowKit Go.Proofs
variable {h h1 h2:Hp} {B F B' F':Nat→Prop}
def NoRow (h:Hp) (S:Nat→Prop):Prop:=∀b cs f,RowAt h b cs f→¬S b
theorem rowAt_obj {b:Nat} {cs:List Value} {f:Nat} (k:RowAt h b cs f):∃r,h.objs.get b=some (.cells r)∧r.e=31:=by
 have:RowE 31 h b cs f:=⟨k.lo,k.lt,k.row,k.fl⟩
 exact rowE_obj this
theorem noRow_own {b:Nat} {e:TypeId} {c:List Value} (o:h.own b e c) (he:e≠31):NoRow h (Only b):=by
 intro b' cs f k hb
 have hb':b'=b:=hb
 subst hb'
 obtain ⟨r,h1,h2⟩:=rowAt_obj k
 rw [o.2.2] at h1
 injection h1 with h1
 injection h1 with h1
 rw [←h1] at h2
 exact he h2
theorem noRow_map {b:Nat} {es:List MapEntry} {n:Nat} (o:h.objs.get b=some (.map es n)):NoRow h (Only b):=by
 intro b' cs f k hb
 have hb':b'=b:=hb
 subst hb'
 obtain ⟨r,h1,h2⟩:=rowAt_obj k
 rw [o] at h1
 injection h1 with h1
 cases h1
theorem keepsN {S:Nat→Prop} (x:ExtS S h h1) (n:NoRow h S):Keeps (fun _=>False) (fun _=>False) h h1 :=
 ⟨x.base,x.ro,x.next,x.nfam,fun b cs f k _ _=>(keepsS x).rows b cs f k (n b cs f k) (fun c=>c)⟩
theorem Keeps.any (x:Keeps (fun _=>False) (fun _=>False) h h1):Keeps B F h h1:=x.mono (fun _ _ c=>c.elim) (fun _ _ _ c=>c.elim) (fun c=>c)
theorem Mine.keepK {n0 f0:Nat} {l:List Part} {v:Value} (x:Keeps (fun _=>False) (fun _=>False) h h1) (M:Mine h n0 f0 B F l v):Mine h1 n0 f0 B F l v:=by
 rcases M with ⟨rfl,rfl⟩|⟨b,f,row,css,hl,rfl,hr,hrl,hb0,hf,hat,hk⟩
 ·exact .inl ⟨rfl,rfl⟩
 ·exact .inr ⟨b,f,row,css,hl,rfl,x.rows _ _ _ hr (fun c=>c) (fun c=>c),hrl,hb0,hf,hat,fun i p hp=>(hk i p hp).keep x.any⟩
theorem Mine.ownF_sameK {n0 f0:Nat} {l:List Part} {v:Value} (M:Mine h n0 f0 B F l v) (x:Keeps (fun _=>False) (fun _=>False) h h1) {q:Nat} (hq:ownF h1 v q):ownF h v q:=by
 rcases M with ⟨rfl,rfl⟩|⟨b,f,row,css,hl,rfl,hr,hrl,hb0,hf,hat,hk⟩
 ·exact hq.elim
 ·exact (ownF_eq hr q).2 ((ownF_eq (x.rows _ _ _ hr (fun c=>c) (fun c=>c)) q).1 hq)
theorem Mine.slice {n0 f0:Nat} {l:List Part} {v:Value} (M:Mine h n0 f0 B F l v):∃A n c,v=.slice A n c∧spotless A=true:=by
 rcases M with ⟨_,rfl⟩|⟨_,_,_,_,_,rfl,_⟩<;>exact ⟨_,_,_,rfl,rfl⟩
theorem KidsAt.slice {l:List Part} {v:Value} (k:KidsAt h B F l v):∃A c,v=.slice A l.length c∧spotless A=true:=by
 obtain ⟨Av,c,b,o,f,row,css,rfl,hc,hs,_⟩:=k
 exact ⟨Av,c,rfl,hs⟩
theorem below_same {n0 f0:Nat} {h':Hp} (x:∀(S:Nat→Prop) (h0:Hp),ExtS S h0 h→h0.next≤n0→h0.nfam≤f0→ExtS S h0 h') (hn:n0≤h.next) (hf:f0≤h.nfam):(∀b,b<n0→h'.objs.get b=h.objs.get b)∧(∀q,q<f0→h'.fams.get q=h.fams.get q):=by
 have y:=x (fun _=>False) { h with next:=n0,nfam:=f0 } ⟨rfl,rfl,hn,fun _ _ _=>rfl,hf,fun _ _=>rfl⟩ (Nat.le_refl _) (Nat.le_refl _)
 exact ⟨fun b hb=>y.objs b hb (fun c=>c),fun q hq=>y.fams q hq⟩
theorem own_same {b:Nat} {e:TypeId} {c:List Value} {h':Hp} (o:h.own b e c) (hs:h'.objs.get b=h.objs.get b) (h1:h'.base=h.base) (h2:h.next≤h'.next):h'.own b e c :=
 ⟨by rw [h1];exact o.1,Nat.lt_of_lt_of_le o.2.1 h2,by rw [hs];exact o.2.2⟩
theorem kids_new {b:Nat} {d t:ByteArray} {l:List Part} {kv:Value} (o:h.own b 31 [.string d,.string t,kv]) (hB:¬B b) (hF:¬F 0) (k:KidsAt h B F l kv):KidsAt h B F [⟨d,t,l⟩] (.slice (some ⟨b,0,none⟩) 1 1):=by
 refine ⟨_,_,b,0,0,_,fun _=>[.string d,.string t,kv],rfl,Nat.le_refl _,rfl,fun _=>⟨rfl,⟨o.1,o.2.1,⟨0,false,row_own o⟩,fun e=>absurd rfl e⟩,hB,hF⟩,fun j p hj => ?_,fun j p hj => ?_⟩
 ·have:j=0:=by
   have:=(List.getElem?_eq_some_iff.1 hj).1
   simpa using this
  subst this
  rfl
 ·have:j=0:=by
   have:=(List.getElem?_eq_some_iff.1 hj).1
   simpa using this
  subst this
  simp only [List.getElem?_cons_zero,Option.some.injEq] at hj
  subst hj
  exact k.tree
end Go.Ev.G24
end
section
namespace Go.Ev.G24
open Go.RowKit Go.Proofs
variable {h h1 h2:Hp} {e:TypeId} {s:Nat}
def OwnG (e:TypeId) (s:Nat) (h:Hp) (n0 f0:Nat) (n:Nat) (cs:List Value) (v:Value):Prop:=(n=0∧cs=[]∧v=.slice none 0 0) ∨
 ∃b f,v=.slice (some ⟨b,0,none⟩) n n∧RowE e h b cs f∧cs.length=n*s∧n0≤b∧(f≠0→f0≤f)
theorem OwnG.len {n0 f0 n:Nat} {cs:List Value} {v:Value} (k:OwnG e s h n0 f0 n cs v):cs.length=n*s:=by
 rcases k with ⟨rfl,rfl,_⟩|⟨b,f,_,_,h1,_⟩
 ·simp
 ·exact h1
theorem OwnG.slice {n0 f0 n:Nat} {cs:List Value} {v:Value} (k:OwnG e s h n0 f0 n cs v):∃A,v=.slice A n n∧spotless A=true:=by
 rcases k with ⟨rfl,_,rfl⟩|⟨b,f,rfl,_⟩
 ·exact ⟨_,rfl,rfl⟩
 ·exact ⟨_,rfl,rfl⟩
theorem OwnG.ext {S:Nat→Prop} (x:ExtS S h h1) {n0 f0 n:Nat} {cs:List Value} {v:Value} (k:OwnG e s h n0 f0 n cs v) (hS:∀b,ownB v b→¬S b):OwnG e s h1 n0 f0 n cs v:=by
 rcases k with ⟨rfl,rfl,rfl⟩|⟨b,f,rfl,hr,hl,hb,hf⟩
 ·exact .inl ⟨rfl,rfl,rfl⟩
 ·exact .inr ⟨b,f,rfl,rowE_keep x hr (hS b rfl),hl,hb,hf⟩
theorem rowE_fam {b f:Nat} {cs:List Value} (k:RowE e h b cs f) {r:Row} (hr:h.row b=some r):r.fam=f:=by
 obtain ⟨bs,g,h2⟩:=k.row
 rw [hr] at h2
 injection h2 with h2
 rw [h2]
theorem ownF_eqE {b f n c:Nat} {cs:List Value} (k:RowE e h b cs f) (q:Nat):ownF h (.slice (some ⟨b,0,none⟩) n c) q↔(q=f∧f≠0):=by
 constructor
 ·rintro ⟨h1,r,h2,h3⟩
  have:=rowE_fam k h2
  exact ⟨by rw [←h3,this],by rw [←this,h3];exact h1⟩
 ·rintro ⟨rfl,h1⟩
  obtain ⟨bs,g,h2⟩:=k.row
  exact ⟨h1,_,h2,rfl⟩
theorem OwnG.lt {n0 f0 n:Nat} {cs:List Value} {v:Value} (k:OwnG e s h n0 f0 n cs v) {x:Nat} (hx:ownB v x):n0≤x∧x<h.next:=by
 rcases k with ⟨rfl,rfl,rfl⟩|⟨b,f,rfl,hr,hl,hb,hf⟩
 ·exact hx.elim
 ·have:x=b:=hx
  rw [this];exact ⟨hb,hr.lt⟩
theorem OwnG.flt {n0 f0 n:Nat} {cs:List Value} {v:Value} (k:OwnG e s h n0 f0 n cs v) {q:Nat} (hq:ownF h v q):q≠0∧f0≤q∧q<h.nfam:=by
 rcases k with ⟨rfl,rfl,rfl⟩|⟨b,f,rfl,hr,hl,hb,hf⟩
 ·exact hq.elim
 ·obtain ⟨rfl,h2⟩:=(ownF_eqE hr q).1 hq
  exact ⟨h2,hf h2,hr.fl h2⟩
theorem OwnG.ownF_same {S:Nat→Prop} {n0 f0 n:Nat} {cs:List Value} {v:Value} (k:OwnG e s h n0 f0 n cs v) (x:ExtS S h h1) (hS:∀b,ownB v b→¬S b) {q:Nat} (hq:ownF h1 v q):ownF h v q:=by
 rcases k with ⟨rfl,rfl,rfl⟩|⟨b,f,rfl,hr,hl,hb,hf⟩
 ·exact hq.elim
 ·exact (ownF_eqE hr q).2 ((ownF_eqE (rowE_keep x hr (hS b rfl)) q).1 hq)
def KeepsE (B F:Nat→Prop) (h h1:Hp):Prop:=∀e b cs f,RowE e h b cs f→¬B b→¬F f→RowE e h1 b cs f
theorem grow_rows {h':Hp} {b f:Nat} (e1:h'.base=h.base) (e3:h'.next=h.next+1) (e4:h.nfam≤h'.nfam)
  (e5:∀x,x<h.next→x≠b→h'.objs.get x=h.objs.get x) (e6:∀q,q<h.nfam→¬(q=f∧f≠0)→h'.fams.get q=h.fams.get q):KeepsE (fun x=>x=b) (fun q=>q=f∧f≠0) h h':=by
 intro e d cs q k hb hf
 refine ⟨by rw [e1];exact k.lo,by have:=k.lt;omega,?_,fun c=>Nat.lt_of_lt_of_le (k.fl c) e4⟩
 obtain ⟨bs,g,hr⟩:=k.row
 refine ⟨bs,g,?_⟩
 have hfam:=rowE_fam k hr
 unfold Hp.row at hr ⊢
 rw [e5 d k.lt hb]
 cases hg:h.objs.get d with
 | none=>rw [hg] at hr;cases hr
 | some ob =>
   rw [hg] at hr
   cases ob with
   | cells r =>
     simp only at hr ⊢
     cases hrf:r.fam with
     | zero=>rw [hrf] at hr;exact hr
     | succ z =>
       rw [hrf] at hr
       simp only at hr ⊢
       have hre:r=⟨cs,e,q,bs,g⟩:=by
        split at hr
        ·split at hr
         ·injection hr
         ·cases hr
        ·cases hr
       have hqz:q=z+1:=by rw [←hrf,hre]
       rw [e6 (z+1) (by rw [←hqz];exact k.fl (by omega)) (by rw [←hqz];exact hf)]
       exact hr
   | map es k=>cases hr
   | sIter s p=>cases hr
   | mIter a b c d=>cases hr
set_option maxRecDepth 10000 in
theorem ownG_append {t:TypeId} {z:Value} (hu:Try.prog.underlying t=some (.slice e)) (hs:sizeOf' Try.prog e=some s) (hz:zero' Try.prog e=some z) (hzl:Nat.beq z.cells.toList.length s=true∧0<s)
  (hby:(match Try.prog.info? e with|some i=>Nat.ble i.bytes 100000&&Nat.blt 0 i.bytes|none=>false)=true) (hni:noInt Try.prog [t]=true)
  {n0 f0 n m:Nat} {cs new:List Value} {v w:Value} (k:OwnG e s h n0 f0 n cs v) (hn:lenOf' w=some m) (hf1:first' h s m w=some new) (hx1:new.all oneCell=true) (hnl:new.length=m*s) (hb:h.base≤h.next) (hn0:n0≤h.next) (hf0:f0≤h.nfam) (hsz:n+m≤1000000) :
  ∃v' h',append' Try.prog h [t,t] [v,w]=some (v',h')∧OwnG e s h' n0 f0 (n+m) (cs++new) v'∧(∀(S:Nat→Prop) (h0:Hp),ExtS S h0 h→h0.next≤n0→h0.nfam≤f0→ExtS S h0 h') ∧
   Keeps (ownB v) (ownF h v) h h'∧(∀x,ownB v' x→ownB v x∨h.next≤x)∧(∀q,ownF h' v' q→ownF h v q∨h.nfam≤q)∧(∀b' e' c',e'≠e→h.own b' e' c'→h'.own b' e' c')∧KeepsE (ownB v) (ownF h v) h h':=by
 have hapd:∀{base:Option Addr} {len cap:Nat},len+m≤1000000→len≤cap→append' Try.prog h [t,t] [.slice base len cap,w]=apd h e s base len cap m new:=fun h1 h2 =>
  append_of hu hs hz hzl hby h hn hf1 h1 h2 hx1 hnl hni
 by_cases hm:m=0
 ·subst hm
  have hnew:new=[]:=List.length_eq_zero_iff.1 (by simpa using hnl)
  subst hnew
  have same:∀{base:Option Addr} {len:Nat},len+0≤1000000→append' Try.prog h [t,t] [.slice base len len,w]=some (.slice base len len,h):=by
   intro base len h1
   rw [hapd h1 (Nat.le_refl _)]
   have:Nat.ble (len+0) len=true:=by simp
   unfold apd
   rw [this]
   cases base with
   | none=>rfl
   | some a=>simp only [Hp.stores];rfl
  obtain ⟨A,rfl,_⟩:=k.slice
  exact ⟨_,_,same (by simpa using hsz),by simpa using k,fun _ _ x _ _=>x,⟨rfl,rfl,Nat.le_refl _,Nat.le_refl _,fun _ _ _ k _ _=>k⟩,fun _ c=>.inl c,fun _ c=>.inl c,fun _ _ _ _ o=>o,fun _ _ _ _ k _ _=>k⟩
 have hm:0<m:=Nat.pos_of_ne_zero hm
 rcases k with ⟨rfl,rfl,rfl⟩|⟨b,f,rfl,hr,hl,hb0,hf⟩
 ·have hx:=Ext.new h (CObj.cells { c:=new,e:=e,fam:=0,base:=0,grown:=true })
  have hrow:RowE e (h.newH (CObj.cells { c:=new,e:=e,fam:=0,base:=0,grown:=true })) h.next new 0:=by
   refine ⟨hb,Nat.lt_succ_self _,⟨0,true,?_⟩,fun e=>absurd rfl e⟩
   simp only [Hp.row,get_newH,if_true]
  refine ⟨.slice (some ⟨h.next,0,none⟩) m m,h.newH (CObj.cells { c:=new,e:=e,fam:=0,base:=0,grown:=true }),?_,?_,fun S h0 q _ _=>q.trans hx.toS,(keepsE hx).any,fun x c=>.inr (by have c':x=h.next:=c;omega),fun q c => ?_,fun b' e' c' _ o=>own_ext hx o,fun _ _ _ _ k _ _=>rowE_keep (S:=fun _=>False) hx.toS k (fun c=>c)⟩
  ·rw [hapd (by simpa using hsz) (Nat.le_refl _)]
   have:Nat.ble (0+m) 0=false:=by
    cases e:Nat.ble (0+m) 0 with
    | false=>rfl
    | true=>have:=Nat.le_of_ble_eq_true e;omega
   simp only [apd,this,Hp.grownRow,new_eq]
  ·exact .inr ⟨h.next,0,by rw [Nat.zero_add],by simpa using hrow,by simpa using hnl,hn0,fun e=>absurd rfl e⟩
  ·exact absurd rfl ((ownF_eqE hrow q).1 c).2
 ·obtain ⟨bs,g,hrow⟩:=hr.row
  have hld:h.loads ⟨b,0,none⟩ (n*s)=some cs:=by
   rw [rowE_loads hr,List.drop_zero,←hl]
   exact takeN_all _
  have hc:Nat.ble (n+m) n=false:=ble_false (by omega)
  have hbeq:Nat.beq e e=true:=by simp
  have happ:=hapd (base:=some ⟨b,0,none⟩) hsz (Nat.le_refl n)
  have fin:∀(f':Nat) (h':Hp),apd h e s (some ⟨b,0,none⟩) n n m new=some (.slice (some ⟨h.next,0,none⟩) (n+m) (n+m),h')→RowE e h' h.next (cs++new) f'→(f'=f∧f≠0∨f'=h.nfam)→h'.base=h.base→h'.ro=h.ro→h'.next=h.next+1→h.nfam≤h'.nfam→(∀y,y<h.next→y≠b→h'.objs.get y=h.objs.get y)→(∀q,q<h.nfam→¬(q=f∧f≠0)→h'.fams.get q=h.fams.get q) →
    ∃v' h',append' Try.prog h [t,t] [.slice (some ⟨b,0,none⟩) n n,w]=some (v',h')∧OwnG e s h' n0 f0 (n+m) (cs++new) v'∧(∀(S:Nat→Prop) (h0:Hp),ExtS S h0 h→h0.next≤n0→h0.nfam≤f0→ExtS S h0 h') ∧
     Keeps (ownB (.slice (some ⟨b,0,none⟩) n n)) (ownF h (.slice (some ⟨b,0,none⟩) n n)) h h'∧(∀x,ownB v' x→ownB (.slice (some ⟨b,0,none⟩) n n) x∨h.next≤x)∧(∀q,ownF h' v' q→ownF h (.slice (some ⟨b,0,none⟩) n n) q∨h.nfam≤q)∧(∀b' e' c',e'≠e→h.own b' e' c'→h'.own b' e' c')∧KeepsE (ownB (.slice (some ⟨b,0,none⟩) n n)) (ownF h (.slice (some ⟨b,0,none⟩) n n)) h h':=by
   intro f' h' a1 a2 a3 e1 e2 e3 e4 e5 e6
   have hf':f'≠0→f0≤f':=by
    intro c
    rcases a3 with ⟨rfl,q⟩|rfl
    ·exact hf q
    ·exact hf0
   refine ⟨_,h',by rw [happ,a1],.inr ⟨h.next,f',rfl,a2,by rw [List.length_append,hl,hnl,Nat.add_mul],hn0,hf'⟩,fun S h0 q q1 q2=>grow_extS q (Nat.le_trans q1 hb0) (fun c=>Nat.le_trans q2 (hf c)) e1 e2 e3 e4 e5 e6,(grow_keeps e1 e2 e3 e4 e5 e6).mono (fun x _ c=>c) (fun q _ _ c=>(ownF_eqE hr q).2 c) (fun c=>c.2 c.1.symm),fun x c=>.inr (by have c':x=h.next:=c;omega),fun q c => ?_,fun b' e' c' hne o => ?_,fun e' d cs' q k hb hf=>grow_rows e1 e3 e4 e5 e6 e' d cs' q k hb (fun c=>hf ((ownF_eqE hr q).2 c))⟩
   ·obtain ⟨rfl,c2⟩:=(ownF_eqE a2 q).1 c
    rcases a3 with ⟨rfl,d⟩|rfl
    ·exact .inl ((ownF_eqE hr q).2 ⟨rfl,d⟩)
    ·exact .inr (Nat.le_refl _)
   ·have hbb:=rowE_ne hr o hne
    exact ⟨by rw [e1];exact o.1,by have:=o.2.1;omega,by rw [e5 b' o.2.1 hbb];exact o.2.2⟩
  cases hfe:f with
  | zero =>
    subst hfe
    refine fin h.nfam { h with
     objs:=(h.objs.put b (.cells ⟨cs,e,h.nfam,bs,g⟩)).put h.next (.cells ⟨cs++new,e,h.nfam,bs+0,true⟩)
     next:=h.next+1
     fams:=h.fams.put h.nfam (⟨h.next,bs+0,bs+0+(cs++new).length⟩::stays b bs (bs+cs.length) (bs+0+n*s))
     nfam:=h.nfam+1 } ?_ ?_ (.inr rfl) rfl rfl rfl (Nat.le_succ _) ?_ ?_
    ·simp only [apd,hc,hrow,hld,grow',hbeq]
    ·refine ⟨by have:=hr.lo;have:=hr.lt;show h.base≤h.next;omega,Nat.lt_succ_self _,⟨bs+0,true,?_⟩,fun _=>Nat.lt_succ_self _⟩
     simp only [Hp.row,Tr.get_put,if_true]
     cases hnf:h.nfam with
     | zero=>rfl
     | succ q=>simp only [Tr.get_put,if_true,List.any_cons,beq_nat,Bool.true_or]
    ·intro x hx hxb
     simp only [Tr.get_put,if_neg (Nat.ne_of_lt hx),if_neg hxb]
    ·intro q hq _
     simp only [Tr.get_put,if_neg (Nat.ne_of_lt hq)]
  | succ q0 =>
    subst hfe
    have hfm:∃l,h.fams.get (q0+1)=some l:=by
     have hrow2:=hrow
     unfold Hp.row at hrow2
     split at hrow2
     ·rename_i r hg
      split at hrow2
      ·rename_i e0
       injection hrow2 with hrow2
       rw [hrow2] at e0
       cases e0
      ·rename_i f0' e0
       split at hrow2
       ·rename_i l hl0
        split at hrow2
        ·injection hrow2 with hrow2
         rw [hrow2] at e0
         have e1:q0+1=f0'+1:=e0
         exact ⟨l,by rw [e1];exact hl0⟩
        ·cases hrow2
       ·cases hrow2
     ·cases hrow2
    obtain ⟨l,hl0⟩:=hfm
    refine fin (q0+1) { h with
     objs:=h.objs.put h.next (.cells ⟨cs++new,e,q0+1,bs+0,true⟩)
     next:=h.next+1
     fams:=h.fams.put (q0+1) (⟨h.next,bs+0,bs+0+(cs++new).length⟩::l.filter fun m=>Nat.ble m.hi (bs+0+n*s)) } ?_ ?_ (.inl ⟨rfl,by omega⟩) rfl rfl rfl (Nat.le_refl _) ?_ ?_
    ·simp only [apd,hc,hrow,hld,grow',hbeq,hl0]
    ·refine ⟨by have:=hr.lo;have:=hr.lt;show h.base≤h.next;omega,Nat.lt_succ_self _,⟨bs+0,true,?_⟩,fun e=>hr.fl e⟩
     simp only [Hp.row,Tr.get_put,if_true,List.any_cons,beq_nat,Bool.true_or]
    ·intro x hx _
     simp only [Tr.get_put,if_neg (Nat.ne_of_lt hx)]
    ·intro q hq hqf
     have:¬q=q0+1:=fun e=>hqf ⟨e,by omega⟩
     simp only [Tr.get_put,if_neg this]
end Go.Ev.G24
end
section
namespace Go.Ev.G24
open Go.RowKit Go.Proofs
variable {r:Ro} {G:List Rule} {items:List ByteArray} {Gv Iv:Option Addr} {gc ic xb:Nat}
def low (s:Int):Int:=if s<0 then s - 1 else -((s+1)*100001)
def pRow (G:List Rule) (items:List ByteArray) (Gv Iv:Option Addr) (gc ic far:Nat) (s:Int):List Value:=[.slice Gv G.length gc,.slice Iv items.length ic,.int .i64 (far:Int),.int .i64 s]
def ResV (h:Hp) (B F:Nat→Prop) (o:Option (List Part×Nat)) (v:Value):Prop:=match o with
 | some (ks,e)=>∃kv,v=.tuple #[kv,.int .i64 (e:Int),.bool true]∧KidsAt h B F ks kv
 | none=>∃A n c e,v=.tuple #[.slice A n c,.int .i64 e,.bool false]∧spotless A=true
def RefL (G:List Rule) (items:List ByteArray) (Gv Iv:Option Addr) (gc ic xb:Nat) (t:Task) (far:Nat) (s lb:Int) (h:Hp) (v:Value) (h1:Hp):Prop:=∃(far':Nat) (s':Int),ExtS (Only xb) h h1∧h1.own xb 71 (pRow G items Gv Iv gc ic far' s')∧far'≤items.length ∧
 ((∃k o,run G items k t=some o∧s'=s - (o.2.1:Int)∧0≤s'∧far'=max far o.2.2∧ResV h1 (fun b=>b<h.next) (fun f=>f≠0∧f<h.nfam) o.1 v) ∨
   (s'<0∧lb≤s'∧∃A n c e,v=.tuple #[.slice A n c,.int .i64 e,.bool false]∧spotless A=true))
def RefC (r:Ro) (G:List Rule) (items:List ByteArray) (Gv Iv:Option Addr) (gc ic xb:Nat) (k:Nat) (p:Part):Prop:=∀(s:Int) (far q:Nat) (h:Hp) (cs:List Value),s<(k:Int) → -1000000000000≤s→s≤1000000→far≤items.length→q≤items.length→h.rom=r→h.base≤h.next →
 h.own xb 71 (pRow G items Gv Iv gc ic far s)→RoPart r p cs→∃v h1,Snd Try.prog 40 [.pointer (some ⟨xb,0,none⟩),.agg cs.toArray,.int .i64 (q:Int)] h v h1∧RefL G items Gv Iv gc ic xb (.part p q) far s (low s) h v h1
theorem ResV.more {h:Hp} {B F B' F':Nat→Prop} (hB:∀b,b<h.next→B' b→B b) (hF:∀f,F' f→F f∨(f≠0∧h.nfam≤f)) {o:Option (List Part×Nat)} {v:Value} (k:ResV h B F o v):ResV h B' F' o v:=by
 cases o with
 | none=>exact k
 | some x =>
   obtain ⟨kv,h1,h2⟩:=k
   exact ⟨kv,h1,h2.more hB hF⟩
theorem RefL.pre {t:Task} {far:Nat} {s lb:Int} {h h2:Hp} {v:Value} {h1:Hp} (x:Ext h h2) (k:RefL G items Gv Iv gc ic xb t far s lb h2 v h1):RefL G items Gv Iv gc ic xb t far s lb h v h1:=by
 obtain ⟨far',s',a1,a2,a3,a4⟩:=k
 refine ⟨far',s',x.toS.trans a1,a2,a3,?_⟩
 rcases a4 with ⟨k,o,b1,b2,b3,b4,b5⟩|b
 ·exact .inl ⟨k,o,b1,b2,b3,b4,b5.more (fun b _ c=>Nat.lt_of_lt_of_le c x.next) (fun f c=>.inl ⟨c.1,Nat.lt_of_lt_of_le c.2 x.nfam⟩)⟩
 ·exact .inr b
theorem RefL.plus {t t':Task} {far:Nat} {s s0 lb:Int} {h:Hp} {v:Value} {h1:Hp} (e:s=s0 - 1) (st:∀k o,run G items k t=some o→∃k',run G items k' t'=some (plus1 o)) (k:RefL G items Gv Iv gc ic xb t far s lb h v h1):RefL G items Gv Iv gc ic xb t' far s0 lb h v h1:=by
 obtain ⟨far',s',a1,a2,a3,a4⟩:=k
 refine ⟨far',s',a1,a2,a3,?_⟩
 rcases a4 with ⟨k,o,b1,b2,b3,b4,b5⟩|b
 ·obtain ⟨k',hk'⟩:=st k o b1
  refine .inl ⟨k',plus1 o,hk',?_,b3,b4,b5⟩
  simp only [plus1]
  omega
 ·exact .inr b
theorem run_seq {k1 k2:Nat} {x:Part} {l acc:List Part} {q:Nat} {ks:List Part} {e n f:Nat} {o:Outc} (h1:run G items k1 (.part x q)=some (some (ks,e),n,f)) (h2:run G items k2 (.seq l e (acc++ks))=some o):run G items (max k1 k2+1) (.seq (x::l) q acc)=some (joinO n f o):=by
 show ((run G items (max k1 k2)) (.part x q)).bind (seqK (run G items (max k1 k2)) l acc)=_
 rw [run_le (Nat.le_max_left k1 k2) _ _ h1]
 simp only [Option.bind_some,seqK]
 rw [run_le (Nat.le_max_right k1 k2) _ _ h2]
 rfl
theorem run_seq_no {k1:Nat} {x:Part} {l acc:List Part} {q:Nat} {n f:Nat} (h1:run G items k1 (.part x q)=some (none,n,f)):run G items (k1+1) (.seq (x::l) q acc)=some (none,n,f):=by
 show ((run G items k1) (.part x q)).bind (seqK (run G items k1) l acc)=_
 rw [h1]
 rfl
theorem run_many {k1 k2:Nat} {x:Part} {acc:List Part} {q:Nat} {ks:List Part} {e n f:Nat} {o:Outc} (h1:run G items k1 (.part x q)=some (some (ks,e),n,f)) (h2:run G items k2 (.many x e (acc++ks))=some o):run G items (max k1 k2+1) (.many x q acc)=some (joinO n f o):=by
 show ((run G items (max k1 k2)) (.part x q)).bind (manyK (run G items (max k1 k2)) x q acc)=_
 rw [run_le (Nat.le_max_left k1 k2) _ _ h1]
 simp only [Option.bind_some,manyK]
 rw [run_le (Nat.le_max_right k1 k2) _ _ h2]
 rfl
theorem run_many_no {k1:Nat} {x:Part} {acc:List Part} {q:Nat} {n f:Nat} (h1:run G items k1 (.part x q)=some (none,n,f)):run G items (k1+1) (.many x q acc)=some (some ([manyT acc],q),n,f):=by
 show ((run G items k1) (.part x q)).bind (manyK (run G items k1) x q acc)=_
 rw [h1]
 rfl
theorem run_alt {k1 k2:Nat} {x:Part} {l:List Part} {q:Nat} {n f:Nat} {o:Outc} (h1:run G items k1 (.part x q)=some (none,n,f)) (h2:run G items k2 (.alt l q)=some o):run G items (max k1 k2+1) (.alt (x::l) q)=some (joinO n f o):=by
 show ((run G items (max k1 k2)) (.part x q)).bind (altK (run G items (max k1 k2)) l q)=_
 rw [run_le (Nat.le_max_left k1 k2) _ _ h1]
 simp only [Option.bind_some,altK]
 rw [run_le (Nat.le_max_right k1 k2) _ _ h2]
 rfl
theorem run_alt_yes {k1:Nat} {x:Part} {l:List Part} {q:Nat} {y:List Part×Nat} {n f:Nat} (h1:run G items k1 (.part x q)=some (some y,n,f)):run G items (k1+1) (.alt (x::l) q)=some (some y,n,f):=by
 show ((run G items k1) (.part x q)).bind (altK (run G items k1) l q)=_
 rw [h1]
 rfl
theorem callee_kids {h' h4:Hp} {n0 f0:Nat} {acc ks:List Part} {v w:Value} {n1 f1:Nat} (M:Mine h' n0 f0 (fun b=>b<n1) (fun f=>f≠0∧f<f1) acc v) (x:Keeps (fun _=>False) (fun _=>False) h' h4) (h1:n1≤h'.next) (h2:f1≤h'.nfam) (K:KidsAt h4 (fun b=>b<h'.next) (fun f=>f≠0∧f<h'.nfam) ks w) :
  KidsAt h4 (fun y=>y<n1∨ownB v y) (fun q=>(q≠0∧q<f1)∨ownF h4 v q) ks w:=by
 refine K.more (fun b _ c => ?_) (fun f c=>.inl ?_)
 ·rcases c with c|c
  ·exact Nat.lt_of_lt_of_le c h1
  ·exact M.lt c
 ·rcases c with c|c
  ·exact ⟨c.1,Nat.lt_of_lt_of_le c.2 h2⟩
  ·exact M.flt (M.ownF_sameK x c)
set_option maxHeartbeats 8000000 in
set_option maxRecDepth 10000 in
theorem ref_seq {k:Nat} {d t:ByteArray} {l:List Part} {Av:Option Addr} {c b o pb:Nat} {css:Nat→List Value} (ih:∀(i:Nat) (p:Part),l[i]? = some p→RefC r G items Gv Iv gc ic xb k p)
  (hlb:l.length≤100000) (hA:l≠[]→Av=some ⟨b,o,none⟩) (hat:∀(i:Nat) (p:Part),l[i]? = some p→roAt r b (o+i*3) (css i)) (hk:∀(i:Nat) (p:Part),l[i]? = some p→RoPart r p (css i)) (hN:items.length≤1000)
  {a:Ev.A} {h2:Hp} {Q:Ex→Ev.A→Hp→Prop} {s lb:Int} {far q:Nat} (hn:a.n=241) (hrom:h2.rom=r) (hb2:h2.base≤h2.next) (hX:h2.own xb 71 (pRow G items Gv Iv gc ic far s)) (hP:h2.own pb 52 [.string d,.string t,.slice Av l.length c])
  (hs0:0≤s) (hs1:s<(k:Int)) (hs2:s≤50000) (hfar:far≤items.length) (hq:q≤items.length) (hlow:∀z,0≤z→z≤s→lb+100000≤low z)
  (g0:a.get 0=.pointer (some ⟨xb,0,none⟩)) (g2:a.get 2=.int .i64 (q:Int)) (g4:a.get 4=.pointer (some ⟨pb,0,none⟩)) (g12:a.get 12=.slice none 0 0) (g13:a.get 13=.int .i64 0)
  (hq1:∀a1 h1 x6 x7 x8,RefL G items Gv Iv gc ic xb (.seq l q []) far s lb h2 (.tuple #[x6,x7,x8]) h1→a1.get 6=x6→a1.get 7=x7→a1.get 8=x8→Q .ret a1 h1)
  (hq0:∀a1 h1 x6 x7,RefL G items Gv Iv gc ic xb (.seq l q []) far s lb h2 (.tuple #[x6,x7,.bool true]) h1→a1.get 12=x6→a1.get 2=x7→Q (.exit 1) a1 h1) :
  Th Try.prog (bodyAt Try.f40 [1,1,1,0,1,0,1,1,1,1,1,0,1,0,1,0]) a h2 Q ⟨⟩ ⟨⟩:=by
 simp only [bodyAt,nav,Try.f40]
 have hpx:pb≠xb:=by
  intro e;have:=hP.2.2;rw [e,hX.2.2] at this;simp at this
 have hxn:xb<h2.next:=hX.2.1
 refine loop_go (n:=241) (by kernel_rfl) (fun m' a' h'=>∃(i q' u fc:Nat) (acc:List Part) (v:Value),i≤l.length∧m'=l.length - i∧ExtS (Only xb) h2 h'∧h'.own xb 71 (pRow G items Gv Iv gc ic (max far fc) (s - (u:Int)))∧(u:Int)≤s∧max far fc≤items.length∧q'≤items.length∧acc.length≤u ∧
  Mine h' h2.next h2.nfam (fun b=>b<h2.next) (fun f=>f≠0∧f<h2.nfam) acc v∧(∀k o,run G items k (.seq (l.drop i) q' acc)=some o→∃k',run G items k' (.seq l q [])=some (joinO u fc o)) ∧
  a'.get 0=.pointer (some ⟨xb,0,none⟩)∧a'.get 2=.int .i64 (q':Int)∧a'.get 4=.pointer (some ⟨pb,0,none⟩)∧a'.get 12=v∧a'.get 13=.int .i64 i) ?_ l.length _ _ hn ⟨0,q,0,0,[],_,Nat.zero_le _,rfl,(Ext.refl _).toS,by simpa using hX,by simpa using hs0,by simpa using hfar,hq,Nat.le_refl _,.inl ⟨rfl,rfl⟩,fun k o e=>⟨k,by rw [List.drop_zero] at e;rw [e];simp [joinO]⟩,g0,g2,g4,g12,g13⟩
 rintro m' a' h' hn' ⟨i,q',u,fc,acc,v,hi,rfl,hx,hX',hu,hfc,hq',hacc,hMi,hcont,e0,e2,e4,e12,e13⟩
 have hrom':h'.rom=r:=ext_rom hx hrom
 have hb':h'.base≤h'.next:=ext_bn hx hb2
 have hP':=own_extS hx hP hpx
 by_cases hlt:i<l.length
 ·have hpi:l[i]? = some l[i]:=List.getElem?_eq_getElem hlt
  have hi1:decide ((i:Int)<(l.length:Int))=true:=decide_eq_true (Int.ofNat_lt.2 hlt)
  obtain ⟨Av1,c1',hcs⟩:=(hk i _ hpi).shape
  have hat':=hat i _ hpi
  have hkid:=hk i _ hpi
  rw [hcs] at hat' hkid
  have hAv:=hA (ne_nil hlt)
  subst hAv
  have hdr:l.drop i=l[i]::l.drop (i+1):=List.drop_eq_getElem_cons hlt
  obtain ⟨v4,h4,hs4,far4,s4,hx4,hX4,hf4,hcase⟩:=ih i _ hpi (s - (u:Int)) (max far fc) q' h' _ (by omega) (by omega) (by omega) hfc hq' hrom' hb' hX' hkid
  simp -dsimp only [go_sem,e0,e2,e4,e12,e13,hi1,load_own hP',ia50 hlt,loads_ro (n:=3) hrom' hat' rfl]
  refine ⟨_,h4,hs4,?_⟩
  have hx24:ExtS (Only xb) h2 h4:=hx.trans hx4
  rcases hcase with ⟨k4,⟨r4,n4,f4⟩,hrun,hs,hsp,hf,hres⟩|⟨hneg,hlw,A,n,c',e',rfl,hspA⟩
  ·have hs:s4=s - (u:Int) - (n4:Int):=hs
   have hf:far4=max (max far fc) f4:=hf
   cases r4 with
   | none =>
     obtain ⟨A,n,c',e',rfl,hspA⟩:=hres
     simp -dsimp only [go_sem]
     refine hq1 _ _ (.slice none 0 0) (.int .i64 0) (.bool false) ⟨far4,s4,hx24,hX4,hf4,.inl ?_⟩ (by simp -dsimp only [go_sem]) (by simp -dsimp only [go_sem]) (by simp -dsimp only [go_sem])
     obtain ⟨k',hk'⟩:=hcont _ _ (by rw [hdr];exact run_seq_no hrun)
     refine ⟨k',_,hk',?_,hsp,?_,⟨_,_,_,_,rfl,rfl⟩⟩
     ·simp only [joinO];omega
     ·simp only [joinO];rw [hf];simp only [Nat.max_assoc]
   | some y =>
     obtain ⟨ks,e⟩:=y
     obtain ⟨kv,rfl,hkv⟩:=hres
     have hfair:=run_fair _ _ _ (show placeT (.part l[i] q')≤items.length from hq') hrun
     obtain ⟨hfn,hen,hfk⟩:=hfair
     simp only [accT,List.length_nil,Nat.zero_add] at hfk hen hfn
     have hn4:n4≤50000:=by omega
     obtain ⟨hkl,_⟩:=hfk (by omega) (fun p hp=>by simp at hp)
     have hkeep:=keepsN hx4 (noRow_own hX' (by decide))
     have hM4:=hMi.keepK hkeep
     have hK4:=callee_kids hMi hkeep hx.next hx.nfam hkv
     have hnx:h2.next≤h4.next:=hx24.next
     have hnf:h2.nfam≤h4.nfam:=hx24.nfam
     obtain ⟨v',h6,ha6,hM6,hext6,hkp6,_⟩:=mine_append hM4 hK4 (by rw [hx24.base];exact Nat.le_trans hb2 hnx) hnx hnf (by omega) (fun x c=>Nat.lt_of_lt_of_le c hnx) (fun q c=>Nat.lt_of_lt_of_le c.2 hnf)
     have hx6:=hext6 (Only xb) h2 hx24 (Nat.le_refl _) (Nat.le_refl _)
     have hX6:=own_same hX4 ((below_same hext6 hnx hnf).1 xb hxn) (hx6.base.trans hx24.base.symm) hkp6.next
     simp -dsimp only [go_sem,e0,e2,e4,e12,e13,builtin',ha6,wrap64_succ hlt (Nat.le_trans hlb (by decide))]
     refine ⟨l.length - (i+1),by omega,i+1,e,u+n4,max fc f4,acc++ks,v',hlt,rfl,hx6,?_,by omega,?_,hen,by rw [List.length_append];omega,hM6,?_,rfl,rfl,rfl⟩
     ·have e1:far4=max far (max fc f4):=by rw [hf];simp only [Nat.max_assoc]
      have e2:s4=s - ((u+n4:Nat):Int):=by omega
      rw [←e1,←e2]
      exact hX6
     ·rw [←Nat.max_assoc,←hf];exact hf4
     ·intro k o ho
      obtain ⟨k',hk'⟩:=hcont _ _ (by rw [hdr];exact run_seq hrun ho)
      refine ⟨k',?_⟩
      rw [hk']
      simp only [joinO,Nat.add_assoc,Nat.max_assoc]
  ·simp -dsimp only [go_sem]
   refine hq1 _ _ (.slice none 0 0) (.int .i64 0) (.bool false) ⟨far4,s4,hx24,hX4,hf4,.inr ⟨hneg,?_,_,_,_,_,rfl,rfl⟩⟩ (by simp -dsimp only [go_sem]) (by simp -dsimp only [go_sem]) (by simp -dsimp only [go_sem])
   have:=hlow (s - (u:Int)) (by omega) (by omega)
   omega
 ·have hi0:decide ((i:Int)<(l.length:Int))=false:=decide_eq_false (by omega)
  have hil:i=l.length:=by omega
  subst hil
  simp -dsimp only [go_sem,e0,e2,e4,e12,e13,hi0,load_own hP']
  obtain ⟨k',hk'⟩:=hcont 1 (some (acc,q'),0,0) (by rw [List.drop_length];rfl)
  refine hq0 _ _ v (.int .i64 (q':Int)) ⟨_,_,hx,hX',hfc,.inl ⟨k',_,hk',?_,by omega,?_,v,rfl,hMi.kidsAt (fun b c=>c) (fun f c=>c)⟩⟩ (by simp -dsimp only [go_sem,e12]) (by simp -dsimp only [go_sem,e2])
  ·simp [joinO]
  ·simp [joinO]
end Go.Ev.G24
end
section
namespace Go.Ev.G24
open Go.RowKit Go.Proofs
variable {G:List Rule} {items:List ByteArray} {h h1 h2:Hp} {B F B' F':Nat→Prop}
def keyV (i q:Nat):Value:=.agg #[.int .i64 (i:Int),.int .i64 (q:Int)]
theorem sh145:Try.prog.stoodInHeld 145=false:=by kernel_rfl
theorem int_beq (a b:Nat):intEq (a:Int) (b:Int)=decide (a=b):=by
 have h:intEq (a:Int) (b:Int)=decide ((a:Int)=(b:Int)):=intEq_dec _ _
 rw [h,decide_eq_decide]
 omega
theorem n1rule:("rule" == "_")=false:=by decide
theorem n1place:("place" == "_")=false:=by decide
set_option maxRecDepth 10000 in
theorem eqv_key (h:Hp) (i q j p:Nat):eqv Try.prog h 40 145 (keyV i q) (keyV j p)=some (decide (i=j)&&decide (q=p)):=by
 simp only [eqv,keyV,Try.underlying145,sh145,List.foldr,part,Try.underlying3,n1rule,n1place,kindEq,List.getElem?_cons_zero,List.getElem?_cons_succ]
 simp only [int_beq]
 by_cases c1:i=j<;>by_cases c2:q=p<;>simp [c1,c2]
set_option maxRecDepth 10000 in
theorem keyOk_key (i q:Nat):keyOk Try.prog 40 145 (keyV i q)=true:=by
 simp only [keyOk,keyV,Try.underlying145,part,Try.underlying3,List.all_cons,List.all_nil,n1rule,n1place,List.getElem?_cons_zero,List.getElem?_cons_succ,Bool.and_true]
abbrev Memo:=List (Nat×Nat×Value)
def MemoAt (h:Hp) (m:Nat) (l:Memo):Prop:=m<h.next∧∃es n,h.objs.get m=some (.map es n)∧es.map (fun e=>(e.key,e.val))=l.map (fun x=>(keyV x.1 x.2.1,x.2.2))
def findM:Memo→Nat→Nat→Nat→Option (Nat×Value)
 | [],_,_,_=>none
 | (j,p,v)::l,i,q,k=>if i=j∧q=p then some (k,v) else findM l i q (k+1)
theorem find_memo (h:Hp) (i q:Nat):∀(l:Memo) (es:List MapEntry) (k:Nat),es.map (fun e=>(e.key,e.val))=l.map (fun x=>(keyV x.1 x.2.1,x.2.2))→find' Try.prog h 145 (keyV i q) es k=some (findM l i q k)
 | [],[],k,_=>rfl
 | [],e::es,k,hh=>by simp at hh
 | x::l,[],k,hh=>by simp at hh
 | (j,p,v)::l,e::es,k,hh=>by
   simp only [List.map_cons,List.cons.injEq,Prod.mk.injEq] at hh
   obtain ⟨⟨h1,h2⟩,h3⟩:=hh
   simp only [find',h1,eqv_key,findM]
   by_cases c:i=j∧q=p
   ·rw [if_pos c,c.1,c.2]
    simp [h2]
   ·rw [if_neg c]
    have:(decide (i=j)&&decide (q=p))=false:=by
     rw [Bool.eq_false_iff]
     intro e
     rw [Bool.and_eq_true] at e
     exact c ⟨of_decide_eq_true e.1,of_decide_eq_true e.2⟩
    rw [this]
    exact find_memo h i q l es (k+1) h3
theorem findM_mem:∀(l:Memo) (i q k:Nat) (x:Nat×Value),findM l i q k=some x→(i,q,x.2)∈l∧k≤x.1∧x.1<k+l.length
 | (j,p,v)::l,i,q,k,x,hh=>by
   unfold findM at hh
   split at hh
   ·rename_i c
    injection hh with hh
    subst hh
    obtain ⟨rfl,rfl⟩:=c
    exact ⟨.head _,Nat.le_refl _,by simp⟩
   ·obtain ⟨h1,h2,h3⟩:=findM_mem l i q (k+1) x hh
    exact ⟨.tail _ h1,by omega,by simp;omega⟩
theorem MemoAt.extS {S:Nat→Prop} (x:ExtS S h h1) {m:Nat} {l:Memo} (k:MemoAt h m l) (hm:¬S m):MemoAt h1 m l :=
 ⟨Nat.lt_of_lt_of_le k.1 x.next,by rw [x.objs m k.1 hm];exact k.2⟩
theorem MemoAt.lookup {m:Nat} {l:Memo} (k:MemoAt h m l) (i q:Nat):lookup' Try.prog h 126 (.map (some m)) (keyV i q) true =
  some (match findM l i q 0 with|some x=>.tuple #[x.2,.bool true]|none=>.tuple #[.agg #[.bool false,.int .i64 0,.slice none 0 0],.bool false]):=by
 obtain ⟨hm,es,n,ho,he⟩:=k
 have hmm:h.map? m=some (es,n):=by simp only [Hp.map?,ho]
 simp only [lookup',Try.underlying126,entriesOf,hmm,keyOk_key,find_memo h i q l es 0 he]
 cases findM l i q 0 with
 | none=>simp only [z75,if_true]
 | some x=>simp only [if_true]
theorem sameKey_key (i q:Nat):sameKey 40 (keyV i q) (keyV i q)=true:=by
 have hi:∀a:Nat,intEq (a:Int) (a:Int)=true:=fun a=>by rw [int_beq];simp
 have hk:kindEq .i64 .i64=true:=rfl
 simp only [keyV,sameKey,List.zip_cons_cons,List.zip_nil_right,List.all_cons,List.all_nil,hi,hk,Bool.and_true]
 rfl
theorem setAt_map (f:MapEntry→MapEntry) (g:MapEntry→Value×Value) (kv:Value×Value):∀(es:List MapEntry) (i:Nat),(∀e,g (f e)=kv)→(setAt f es i).map g=(es.map g).set i kv
 | [],i,_=>by simp [setAt]
 | e::es,0,hh=>by simp [setAt,hh]
 | e::es,i+1,hh=>by simp [setAt,setAt_map f g kv es i hh]
theorem get_key {l:Memo} {es:List MapEntry} {j i q:Nat} {v:Value} (he:es.map (fun e=>(e.key,e.val))=l.map (fun x=>(keyV x.1 x.2.1,x.2.2))) (hf:findM l i q 0=some (j,v)):∃e,es[j]? = some e∧e.key=keyV i q:=by
 have hj:∀(l:Memo) (es:List MapEntry) (k:Nat),es.map (fun e=>(e.key,e.val))=l.map (fun x=>(keyV x.1 x.2.1,x.2.2))→∀j v,findM l i q k=some (j,v)→∃e,es[j - k]? = some e∧e.key=keyV i q∧k≤j:=by
  intro l
  induction l with
  | nil=>intro es k he j v hf;cases hf
  | cons x l ih =>
    obtain ⟨i',q',v'⟩:=x
    intro es k he j v hf
    cases es with
    | nil=>simp at he
    | cons e es =>
      simp only [List.map_cons,List.cons.injEq,Prod.mk.injEq] at he
      obtain ⟨⟨e1,e2⟩,e3⟩:=he
      unfold findM at hf
      split at hf
      ·rename_i c
       injection hf with hf
       injection hf with hf1 hf2
       subst hf1
       obtain ⟨rfl,rfl⟩:=c
       exact ⟨e,by simp,e1,Nat.le_refl _⟩
      ·obtain ⟨e',h1,h2,h3⟩:=ih es (k+1) e3 j v hf
       refine ⟨e',?_,h2,by omega⟩
       rw [show j - k=(j - (k+1))+1 by omega]
       simpa using h1
 obtain ⟨e,h1,h2,_⟩:=hj l es 0 he j v hf
 exact ⟨e,by simpa using h1,h2⟩
theorem MemoAt.update {m:Nat} {l:Memo} (k:MemoAt h m l) (i q:Nat) (v:Value):∃o l',mapUpdate' Try.prog h 126 (.map (some m)) (keyV i q) v=some (h.put m o)∧MemoAt (h.put m o) m l'∧∀x∈l',x∈l∨x=(i,q,v):=by
 obtain ⟨hm,es,n,ho,he⟩:=k
 have hmm:h.map? m=some (es,n):=by simp only [Hp.map?,ho]
 cases hf:findM l i q 0 with
 | none =>
   refine ⟨.map (es++[⟨keyV i q,v,n⟩]) (n+1),l++[(i,q,v)],?_,⟨hm,_,_,by rw [get_putH,if_pos rfl],by simp [he]⟩,fun x hx => ?_⟩
   ·simp only [mapUpdate',Try.underlying126,hmm,keyOk_key,find_memo h i q l es 0 he,hf]
   ·rcases List.mem_append.1 hx with hx|hx
    ·exact .inl hx
    ·simp at hx;exact .inr hx
 | some y =>
   obtain ⟨j,w⟩:=y
   obtain ⟨e,h1,h2⟩:=get_key he hf
   refine ⟨.map (setAt (fun e=>{ e with key:=keyV i q,val:=v }) es j) n,l.set j (i,q,v),?_,⟨hm,_,_,by rw [get_putH,if_pos rfl],?_⟩,fun x hx => ?_⟩
   ·simp only [mapUpdate',Try.underlying126,hmm,keyOk_key,find_memo h i q l es 0 he,hf,h1,h2,sameKey_key]
   ·rw [setAt_map _ _ (keyV i q,v) es j (fun e=>rfl),he,List.map_set]
   ·rcases List.mem_or_eq_of_mem_set hx with hx|hx
    ·exact .inl hx
    ·exact .inr hx
def OutV (h:Hp) (B F:Nat→Prop) (o:Option (List Part×Nat)) (v:Value):Prop:=match o with
 | none=>v=.agg #[.bool false,.int .i64 0,.slice none 0 0]
 | some (ks,e)=>∃kv,v=.agg #[.bool true,.int .i64 (e:Int),kv]∧KidsAt h B F ks kv
theorem OutV.keep (x:Keeps B F h h1) {o:Option (List Part×Nat)} {v:Value} (k:OutV h B F o v):OutV h1 B F o v:=by
 cases o with
 | none=>exact k
 | some y=>obtain ⟨kv,h1,h2⟩:=k;exact ⟨kv,h1,h2.keep x⟩
theorem OutV.more (hB:∀b,b<h.next→B' b→B b) (hF:∀f,F' f→F f∨(f≠0∧h.nfam≤f)) {o:Option (List Part×Nat)} {v:Value} (k:OutV h B F o v):OutV h B' F' o v:=by
 cases o with
 | none=>exact k
 | some y=>obtain ⟨kv,h1,h2⟩:=k;exact ⟨kv,h1,h2.more hB hF⟩
def Good (G:List Rule) (items:List ByteArray) (h:Hp) (B F:Nat→Prop) (far:Nat) (x:Nat×Nat×Value):Prop :=
 ∃(y:Rule) (k:Nat) (o:Outc),G[x.1]? = some y∧run G items k (.part y.body x.2.1)=some o∧o.2.2≤far∧OutV h B F (ruleO y.name o).1 x.2.2
structure MemoOk (G:List Rule) (items:List ByteArray) (h:Hp) (B F:Nat→Prop) (far m:Nat) (l:Memo):Prop where
 at':MemoAt h m l
 good:∀x∈l,Good G items h B F far x
theorem Good.keep (x:Keeps B F h h1) {far far':Nat} (hf:far≤far') {e:Nat×Nat×Value} (k:Good G items h B F far e):Good G items h1 B F far' e:=by
 obtain ⟨y,k,o,a1,a2,a3,a4⟩:=k
 exact ⟨y,k,o,a1,a2,Nat.le_trans a3 hf,a4.keep x⟩
theorem Good.more (hB:∀b,b<h.next→B' b→B b) (hF:∀f,F' f→F f∨(f≠0∧h.nfam≤f)) {far:Nat} {e:Nat×Nat×Value} (k:Good G items h B F far e):Good G items h B' F' far e:=by
 obtain ⟨y,k,o,a1,a2,a3,a4⟩:=k
 exact ⟨y,k,o,a1,a2,a3,a4.more hB hF⟩
theorem MemoOk.extS {S:Nat→Prop} (x:ExtS S h h1) (n:NoRow h S) {far far' m:Nat} {l:Memo} (k:MemoOk G items h B F far m l) (hm:¬S m) (hf:far≤far'):MemoOk G items h1 B F far' m l :=
 ⟨k.at'.extS x hm,fun e he=>(k.good e he).keep (keepsN x n).any hf⟩
theorem MemoOk.more (hB:∀b,b<h.next→B' b→B b) (hF:∀f,F' f→F f∨(f≠0∧h.nfam≤f)) {far m:Nat} {l:Memo} (k:MemoOk G items h B F far m l):MemoOk G items h B' F' far m l :=
 ⟨k.at',fun e he=>(k.good e he).more hB hF⟩
def Two (a b:Nat):Nat→Prop:=fun x=>x=a∨x=b
theorem noRow_two {xb mm:Nat} {e:TypeId} {c:List Value} {es:List MapEntry} {n:Nat} (o:h.own xb e c) (he:e≠31) (om:h.objs.get mm=some (.map es n)):NoRow h (Two xb mm):=by
 intro b cs f k hb
 rcases hb with hb|hb
 ·exact noRow_own o he b cs f k hb
 ·exact noRow_map om b cs f k hb
end Go.Ev.G24
end
section
namespace Go.Ev.G24
open Go.RowKit Go.Proofs
variable {r:Ro} {G:List Rule} {items:List ByteArray} {Gv Iv:Option Addr} {gc ic xb mm bk m eb:Nat} {em:List Bool} {h h1 h2:Hp} {B F B' F':Nat→Prop}
structure Bnd (h:Hp) (B F:Nat→Prop):Prop where
 b:∀x,B x→x<h.next
 f:∀q,F q→q≠0∧q<h.nfam
theorem Bnd.mono {S:Nat→Prop} (x:ExtS S h h1) (k:Bnd h B F):Bnd h1 B F:=⟨fun b c=>Nat.lt_of_lt_of_le (k.b b c) x.next,fun q c=>⟨(k.f q c).1,Nat.lt_of_lt_of_le (k.f q c).2 x.nfam⟩⟩
def TakeP (G:List Rule) (items:List ByteArray) (B F:Nat→Prop) (bk:Nat) (Iv:Option Addr) (ic mm xb:Nat) (o:Outc) (far:Nat) (h:Hp) (v:Value) (h1:Hp):Prop:=∃memo',ExtS (Two xb mm) h h1∧h1.own xb 128 (runRow bk Iv items.length ic mm (max far o.2.2))∧MemoOk G items h1 B F (max far o.2.2) mm memo'∧OutV h1 B F o.1 v
def TakeC (r:Ro) (G:List Rule) (items:List ByteArray) (Gv Iv:Option Addr) (gc ic xb mm bk m eb:Nat) (em:List Bool) (k:Nat) (p:Part):Prop:=∀(B F:Nat→Prop) (far q:Nat) (h:Hp) (cs:List Value) (memo:Memo) (o:Outc),Bnd h B F→far≤items.length→q≤items.length→h.rom=r→h.base≤h.next →
 h.own xb 128 (runRow bk Iv items.length ic mm far)→MemoOk G items h B F far mm memo→Book h bk m eb (.slice Gv G.length gc) (nms G) em→RoPart r p cs→run G items k (.part p q)=some o→o.2.1≤50000 →
 ∃v h1,Snd Try.prog 70 [.pointer (some ⟨xb,0,none⟩),.agg cs.toArray,.int .i64 (q:Int)] h v h1∧TakeP G items B F bk Iv ic mm xb o far h v h1
theorem Book.two (k:Book h bk m eb (.slice Gv G.length gc) (nms G) em) (hX:∃c,h.own xb 128 c) (hM:∃es n,h.objs.get mm=some (.map es n)) (hne:m≠mm) (x:ExtS (Two xb mm) h h1):Book h1 bk m eb (.slice Gv G.length gc) (nms G) em:=by
 obtain ⟨c,hX⟩:=hX
 obtain ⟨es,n,hM⟩:=hM
 refine k.extS x ?_ ?_ ?_
 ·rintro (c|c)
  ·have:=k.own.2.2;rw [c,hX.2.2] at this;simp at this
  ·have:=k.own.2.2;rw [c,hM] at this;simp at this
 ·rintro (c|c)
  ·have:=k.map.2;rw [c,hX.2.2] at this;simp at this
  ·exact hne c
 ·rintro (c|c)
  ·have:=k.row.2.2;rw [c,hX.2.2] at this;simp at this
  ·have:=k.row.2.2;rw [c,hM] at this;simp at this
theorem MemoAt.map {l:Memo} (k:MemoAt h mm l):∃es n,h.objs.get mm=some (.map es n):=by
 obtain ⟨_,es,n,h1,_⟩:=k
 exact ⟨es,n,h1⟩
theorem TakeP.put {o:Outc} {far:Nat} {v:Value} {b:Nat} {e:TypeId} {c c1:List Value} (k:TakeP G items B F bk Iv ic mm xb o far h v h1) (hb:h.next≤b) (ho:h1.own b e c) (he:e≠31) (hxb:xb<h.next) (hmm:mm<h.next):TakeP G items B F bk Iv ic mm xb o far h v (h1.put b (.cells ⟨c1,e,0,0,false⟩)):=by
 obtain ⟨memo',a1,a2,a3,a4⟩:=k
 have x:ExtS (Only b) h1 (h1.put b (.cells ⟨c1,e,0,0,false⟩)):=((Ext.refl h1).toS (S:=Only b)).put (b:=b) (.inr rfl) _
 have n:=noRow_own ho he
 exact ⟨memo',a1.put (.inl hb) _,own_extS x a2 (by show xb≠b;omega),a3.extS x n (by show mm≠b;omega) (Nat.le_refl _),a4.keep (keepsN x n).any⟩
theorem TakeP.pre {S:Nat→Prop} {o:Outc} {far:Nat} {v:Value} (x:ExtS (Two xb mm) h h2) (k:TakeP G items B F bk Iv ic mm xb o far h2 v h1):TakeP G items B F bk Iv ic mm xb o far h v h1:=by
 obtain ⟨memo',a1,a2,a3,a4⟩:=k
 exact ⟨memo',x.trans a1,a2,a3,a4⟩
theorem seq_inv {kk:Nat} {x:Part} {l acc:List Part} {q:Nat} {o:Outc} (e:run G items kk (.seq (x::l) q acc)=some o):∃kk' r4 n4 f4,kk'+1=kk∧run G items kk' (.part x q)=some (r4,n4,f4)∧match r4 with
  | none=>o=(none,n4,f4)
  | some (ks,e)=>∃o',run G items kk' (.seq l e (acc++ks))=some o'∧o=joinO n4 f4 o':=by
 cases kk with
 | zero=>cases e
 | succ kk =>
   change ((run G items kk) (.part x q)).bind (seqK (run G items kk) l acc)=some o at e
   rw [Option.bind_eq_some_iff] at e
   obtain ⟨⟨r,n,f⟩,h1,h2⟩:=e
   refine ⟨kk,r,n,f,rfl,h1,?_⟩
   cases r with
   | none =>
     simp only [seqK] at h2
     injection h2 with h2
     exact h2.symm
   | some y =>
     obtain ⟨ks,e⟩:=y
     simp only [seqK] at h2
     rw [Option.map_eq_some_iff] at h2
     obtain ⟨o',h3,h4⟩:=h2
     exact ⟨o',h3,h4.symm⟩
theorem alt_inv {kk:Nat} {x:Part} {l:List Part} {q:Nat} {o:Outc} (e:run G items kk (.alt (x::l) q)=some o):∃kk' r4 n4 f4,kk'+1=kk∧run G items kk' (.part x q)=some (r4,n4,f4)∧match r4 with
  | some y=>o=(some y,n4,f4)
  | none=>∃o',run G items kk' (.alt l q)=some o'∧o=joinO n4 f4 o':=by
 cases kk with
 | zero=>cases e
 | succ kk =>
   change ((run G items kk) (.part x q)).bind (altK (run G items kk) l q)=some o at e
   rw [Option.bind_eq_some_iff] at e
   obtain ⟨⟨r,n,f⟩,h1,h2⟩:=e
   refine ⟨kk,r,n,f,rfl,h1,?_⟩
   cases r with
   | some y =>
     simp only [altK] at h2
     injection h2 with h2
     exact h2.symm
   | none =>
     simp only [altK] at h2
     rw [Option.map_eq_some_iff] at h2
     obtain ⟨o',h3,h4⟩:=h2
     exact ⟨o',h3,h4.symm⟩
theorem many_inv {kk:Nat} {x:Part} {acc:List Part} {q:Nat} {o:Outc} (e:run G items kk (.many x q acc)=some o):∃kk' r4 n4 f4,kk'+1=kk∧run G items kk' (.part x q)=some (r4,n4,f4)∧match r4 with
  | none=>o=(some ([manyT acc],q),n4,f4)
  | some (ks,e)=>∃o',run G items kk' (.many x e (acc++ks))=some o'∧o=joinO n4 f4 o':=by
 cases kk with
 | zero=>cases e
 | succ kk =>
   change ((run G items kk) (.part x q)).bind (manyK (run G items kk) x q acc)=some o at e
   rw [Option.bind_eq_some_iff] at e
   obtain ⟨⟨r,n,f⟩,h1,h2⟩:=e
   refine ⟨kk,r,n,f,rfl,h1,?_⟩
   cases r with
   | none =>
     simp only [manyK] at h2
     injection h2 with h2
     exact h2.symm
   | some y =>
     obtain ⟨ks,e⟩:=y
     simp only [manyK] at h2
     rw [Option.map_eq_some_iff] at h2
     obtain ⟨o',h3,h4⟩:=h2
     exact ⟨o',h3,h4.symm⟩
theorem memo_append {h5 h6:Hp} {n0 f0 far:Nat} {acc ks:List Part} {v v':Value} {memo:Memo} (K:MemoOk G items h5 (fun x=>B x∨ownB v x) (fun q=>F q∨ownF h5 v q) far mm memo) (M5:Mine h5 n0 f0 B F acc v) (M6:Mine h6 n0 f0 B F (acc++ks) v')
  (kp:Keeps (ownB v) (ownF h5 v) h5 h6) (hB:∀x,ownB v' x→ownB v x∨h5.next≤x) (hF:∀q,ownF h6 v' q→ownF h5 v q∨h5.nfam≤q) (hobj:h6.objs.get mm=h5.objs.get mm):MemoOk G items h6 (fun x=>B x∨ownB v' x) (fun q=>F q∨ownF h6 v' q) far mm memo:=by
 refine ⟨⟨Nat.lt_of_lt_of_le K.at'.1 kp.next,by rw [hobj];exact K.at'.2⟩,fun e he => ?_⟩
 have g1:=(K.good e he).more (B':=fun x=>(B x∨ownB v x)∨ownB v' x) (F':=fun q=>(F q∨ownF h5 v q)∨ownF h6 v' q) (fun b hb c=>by
  rcases c with c|c
  ·exact c
  ·rcases hB b c with c|c
   ·exact .inr c
   ·omega) (fun q c=>by
  rcases c with c|c
  ·exact .inl c
  ·rcases hF q c with d|d
   ·exact .inl (.inr d)
   ·exact .inr ⟨(M6.flt c).1,d⟩)
 have g2:=g1.keep (far':=far) (kp.mono (B':=fun x=>(B x∨ownB v x)∨ownB v' x) (F':=fun q=>(F q∨ownF h5 v q)∨ownF h6 v' q) (fun b _ c=>.inl (.inr c)) (fun q _ _ c=>.inl (.inr c)) (fun c=>(M5.flt c).1 rfl)) (Nat.le_refl _)
 exact g2.more (fun b _ c=>by
  rcases c with c|c
  ·exact .inl (.inl c)
  ·exact .inr c) (fun q c=>.inl (by
  rcases c with c|c
  ·exact .inl (.inl c)
  ·exact .inr c))
end Go.Ev.G24
end
section
namespace Go.Ev.G24
open Go.RowKit Go.Proofs
variable {r:Ro} {G:List Rule} {items:List ByteArray} {Gv Iv:Option Addr} {gc ic xb mm bk m eb:Nat} {em:List Bool} {B F:Nat→Prop}
set_option maxHeartbeats 8000000 in
set_option maxRecDepth 10000 in
theorem take_seq {k:Nat} {d t:ByteArray} {l:List Part} {Av:Option Addr} {c b o pb zb ob:Nat} {css:Nat→List Value} (ih:∀(i:Nat) (p:Part),l[i]? = some p→TakeC r G items Gv Iv gc ic xb mm bk m eb em k p)
  (hlb:l.length≤100000) (hA:l≠[]→Av=some ⟨b,o,none⟩) (hat:∀(i:Nat) (p:Part),l[i]? = some p→roAt r b (o+i*3) (css i)) (hk:∀(i:Nat) (p:Part),l[i]? = some p→RoPart r p (css i))
  {h:Hp} {far q:Nat} {memo:Memo} (hrom:h.rom=r) (hb:h.base≤h.next) (hBnd:Bnd h B F) (hX:h.own xb 128 (runRow bk Iv items.length ic mm far)) (hM:MemoOk G items h B F far mm memo) (hBk:Book h bk m eb (.slice Gv G.length gc) (nms G) em) (hmne:m≠mm) (hfar:far≤items.length) (hq:q≤items.length) {o9:Outc} (hrun:run G items k (.seq l q [])=some o9) (ho9:o9.2.1≤50000)
  {a:Ev.A} {h2:Hp} {Q:Ex→Ev.A→Hp→Prop} (hn:a.n=189) (hx:Ext h h2) {zc:List Value} (hzl:zc.length=3) (hP:h2.own pb 52 [.string d,.string t,.slice Av l.length c]) (hZ:h2.own zb 75 zc) (hO:h2.own ob 75 [.bool true,.int .i64 (q:Int),.slice none 0 0]) (hpn:h.next≤pb) (hzn:h.next≤zb) (hon:h.next≤ob) (hzo:zb≠ob)
  (g0:a.get 0=.pointer (some ⟨xb,0,none⟩)) (g6:a.get 6=.pointer (some ⟨zb,0,none⟩)) (g10:a.get 10=.pointer (some ⟨ob,0,none⟩)) (g95:a.get 95=.slice Av l.length c) (g96:a.get 96=.int .i64 l.length) (g97:a.get 97=.int .i64 0)
  (hq1:∀a1 h1 x y z,TakeP G items B F bk Iv ic mm xb o9 far h (.agg #[x,y,z]) h1→h1.own zb 75 [x,y,z]→a1.get 6=.pointer (some ⟨zb,0,none⟩)→Q .ret a1 h1)
  (hq0:∀a1 h1 x y z,TakeP G items B F bk Iv ic mm xb o9 far h (.agg #[x,y,z]) h1→h1.own ob 75 [x,y,z]→h1.own zb 75 zc→a1.get 6=.pointer (some ⟨zb,0,none⟩)→a1.get 10=.pointer (some ⟨ob,0,none⟩)→Q (.exit 1) a1 h1) :
  Th Try.prog (bodyAt Try.f70 [1,0,1,0,1,1,1,1,1,1,1,0,1,0,1,0]) a h2 Q ⟨⟩ ⟨⟩:=by
 have hxm:∀{h':Hp},ExtS (Two xb mm) h h'→Book h' bk m eb (.slice Gv G.length gc) (nms G) em:=fun x=>hBk.two ⟨_,hX⟩ hM.at'.map hmne x
 have hxbn:xb<h.next:=hX.2.1
 have hmmn:mm<h.next:=hM.at'.1
 have hn02:h.next≤h2.next:=hx.next
 have hf02:h.nfam≤h2.nfam:=hx.nfam
 have hX2:=own_ext hx hX
 have hM2:MemoOk G items h2 B F far mm memo:=hM.extS (S:=fun _=>False) hx.toS (fun _ _ _ _ c=>c) (fun c=>c) (Nat.le_refl _)
 simp only [bodyAt,nav,Try.f70]
 refine loop_go (n:=189) (by kernel_rfl) (fun m' a' h'=>∃(i q' fc kk:Nat) (acc:List Part) (v:Value) (memo':Memo) (o':Outc),i≤l.length∧m'=l.length - i∧ExtS (Two xb mm) h h'∧h2.next≤h'.next∧h2.nfam≤h'.nfam∧h'.own xb 128 (runRow bk Iv items.length ic mm fc)∧fc≤items.length∧q'≤items.length ∧
  h'.own pb 52 [.string d,.string t,.slice Av l.length c]∧h'.own zb 75 zc∧h'.own ob 75 [.bool true,.int .i64 (q':Int),v]∧Mine h' h2.next h2.nfam B F acc v∧MemoOk G items h' (fun x=>B x∨ownB v x) (fun q=>F q∨ownF h' v q) fc mm memo' ∧
  kk≤k∧run G items kk (.seq (l.drop i) q' acc)=some o'∧o'.1=o9.1∧max fc o'.2.2=max far o9.2.2∧acc.length+o'.2.1≤o9.2.1 ∧
  a'.get 0=.pointer (some ⟨xb,0,none⟩)∧a'.get 6=.pointer (some ⟨zb,0,none⟩)∧a'.get 10=.pointer (some ⟨ob,0,none⟩)∧a'.get 95=.slice Av l.length c∧a'.get 96=.int .i64 l.length∧a'.get 97=.int .i64 i) ?_ l.length _ _ hn ⟨0,q,far,k,[],_,memo,o9,Nat.zero_le _,rfl,hx.toS,Nat.le_refl _,Nat.le_refl _,hX2,hfar,hq,hP,hZ,hO,.inl ⟨rfl,rfl⟩,hM2.more (fun b _ c=>c.elim id (fun c=>c.elim)) (fun f c=>.inl (c.elim id (fun c=>c.elim))),Nat.le_refl _,by rw [List.drop_zero];exact hrun,rfl,rfl,by simp,g0,g6,g10,g95,g96,g97⟩
 rintro m' a' h' hn' ⟨i,q',fc,kk,acc,v,memo',o',hi,rfl,hxh,hn2,hf2,hX',hfc,hq',hP',hZ',hO',hMi,hMe,hkk,hrk,ho1,ho2,ho3,e0,e6,e10,e95,e96,e97⟩
 have hrom':h'.rom=r:=ext_rom hxh hrom
 have hb':h'.base≤h'.next:=ext_bn hxh hb
 by_cases hlt:i<l.length
 ·have hpi:l[i]? = some l[i]:=List.getElem?_eq_getElem hlt
  have hi1:decide ((i:Int)<(l.length:Int))=true:=decide_eq_true (Int.ofNat_lt.2 hlt)
  obtain ⟨Av1,c1',hcs⟩:=(hk i _ hpi).shape
  have hat':=hat i _ hpi
  have hkid:=hk i _ hpi
  rw [hcs] at hat' hkid
  have hAv:=hA (ne_nil hlt)
  subst hAv
  have hdr:l.drop i=l[i]::l.drop (i+1):=List.drop_eq_getElem_cons hlt
  rw [hdr] at hrk
  obtain ⟨kk',r4,n4,f4,hkk',hr4,hmt⟩:=seq_inv hrk
  obtain ⟨vS,vO,vX,vB,vR⟩:=var_ok hb' (e:=52) (c0:=[.string ⟨#[]⟩,.string ⟨#[]⟩,.slice none 0 0]) (c1:=[.string l[i].d,.string l[i].t,.slice Av1 l[i].l.length c1']) rfl rfl (by simp)
  simp -dsimp only [go_sem,e0,e6,e10,e95,e96,e97,hi1,ia50 hlt,loads_ro (n:=3) hrom' hat' rfl,vS,loads_own vO]
  generalize h'.var 52 [.string ⟨#[]⟩,.string ⟨#[]⟩,.slice none 0 0] [.string l[i].d,.string l[i].t,.slice Av1 l[i].l.length c1']=hv at vS vO vX vB vR ⊢
  have hxv:=hxh.trans (vX.toS (S:=Two xb mm))
  have hXv:=own_ext vX hX'
  have hOv:=own_ext vX hO'
  have hMv:MemoOk G items hv (fun x=>B x∨ownB v x) (fun q=>F q∨ownF h' v q) fc mm memo':=hMe.extS (S:=fun _=>False) vX.toS (fun _ _ _ _ c=>c) (fun c=>c) (Nat.le_refl _)
  have hBv:Bnd hv (fun x=>B x∨ownB v x) (fun q=>F q∨ownF h' v q):=⟨fun x c=>by
   have:=vX.next
   rcases c with c|c
   ·have:=hBnd.b x c;omega
   ·have:=hMi.lt c;omega,fun q c=>by
   have:=vX.nfam
   rcases c with c|c
   ·have:=hBnd.f q c;exact ⟨this.1,by omega⟩
   ·have:=hMi.flt c;exact ⟨this.1,by omega⟩⟩
  have hn4:n4≤50000:=by
   cases r4 with
   | none=>rw [show o'=(none,n4,f4) from hmt] at ho3;simp at ho3;omega
   | some y =>
     obtain ⟨ks,e⟩:=y
     obtain ⟨o'',_,e2⟩:=hmt
     rw [e2] at ho3
     simp only [joinO] at ho3
     omega
  obtain ⟨v4,h4,hs4,memo4,hx4,hX4,hM4,hV4⟩:=ih i _ hpi _ _ fc q' hv _ memo' _ hBv hfc hq' (vR.trans hrom') vB hXv hMv (hxm hxv) hkid (run_le (by omega:kk'≤k) _ _ hr4) hn4
  have hOv2:=hOv
  simp -dsimp only [go_sem,e0,e10,load_own hOv,loads_own vO]
  refine ⟨_,h4,hs4,?_⟩
  have hx04:=hxv.trans hx4
  have hfair:=run_fair _ _ _ (show placeT (.part l[i] q')≤items.length from hq') hr4
  have hP4:=own_extS hx4 (own_ext vX hP') (by rintro (c|c)<;>omega)
  have hZ4:=own_extS hx4 (own_ext vX hZ') (by rintro (c|c)<;>omega)
  have hO4:=own_extS hx4 hOv (by rintro (c|c)<;>omega)
  have hb4:h4.base≤h4.next:=ext_bn hx04 hb
  have hn24:h2.next≤h4.next:=by have:=vX.next;have:=hx4.next;omega
  have hf24:h2.nfam≤h4.nfam:=by have:=vX.nfam;have:=hx4.nfam;omega
  obtain ⟨esv,nv,hmv⟩:=hMv.at'.map
  have kv4:Keeps (fun _=>False) (fun _=>False) h' h4:=(keepsE vX).trans (keepsN hx4 (noRow_two hXv (by decide) hmv))
  cases r4 with
  | none =>
    have hmt:o'=(none,n4,f4):=hmt
    have hV4:v4=.agg #[.bool false,.int .i64 0,.slice none 0 0]:=hV4
    subst hV4
    obtain ⟨wS,wO,wX,wB,wR⟩:=var_ok hb4 (e:=75) (c0:=[.bool false,.int .i64 0,.slice none 0 0]) (c1:=[.bool false,.int .i64 0,.slice none 0 0]) rfl rfl (by simp)
    have hZ5:=own_ext wX hZ4
    have hzs:=stores_own hZ5 (o:=0) (vs:=[.bool false,.int .i64 0,.slice none 0 0]) (c1:=[.bool false,.int .i64 0,.slice none 0 0]) rfl (by
     match zc,hzl with
     | [x,y,z],_=>rfl) (by simp)
    simp -dsimp only [go_sem,wS,load_own wO,e6,hzs]
    have hTP:TakeP G items B F bk Iv ic mm xb o9 far h (.agg #[.bool false,.int .i64 0,.slice none 0 0]) (h4.var 75 [.bool false,.int .i64 0,.slice none 0 0] [.bool false,.int .i64 0,.slice none 0 0]):=by
     refine ⟨memo4,hx04.trans wX.toS,?_,?_,?_⟩
     ·rw [←ho2,hmt];exact own_ext wX hX4
     ·rw [←ho2,hmt]
      exact (hM4.extS (S:=fun _=>False) wX.toS (fun _ _ _ _ c=>c) (fun c=>c) (Nat.le_refl _)).more (fun b _ c=>.inl c) (fun f c=>.inl (.inl c))
     ·rw [←ho1,hmt];rfl
    exact hq1 _ _ _ _ _ (hTP.put hzn hZ5 (by decide) hxbn hmmn) (own_put_same hZ5 _) (by simp -dsimp only [go_sem,e6])
  | some y =>
    obtain ⟨ks,e⟩:=y
    obtain ⟨o'',hrun'',ho''⟩:=hmt
    obtain ⟨kv,rfl,hkv⟩:=hV4
    obtain ⟨A9,c9,hkve,hsp9⟩:=hkv.slice
    obtain ⟨hfn,hen,hfk⟩:=hfair
    simp only [accT,List.length_nil,Nat.zero_add] at hfk hen hfn
    obtain ⟨hkl,_⟩:=hfk (by omega) (fun p hp=>by simp at hp)
    have hkl:ks.length≤n4:=hkl
    obtain ⟨wS,wO,wX,wB,wR⟩:=var_ok hb4 (e:=75) (c0:=[.bool false,.int .i64 0,.slice none 0 0]) (c1:=[.bool true,.int .i64 (e:Int),kv]) rfl (by rw [hkve];rfl) (by simp)
    have hMi4:=hMi.keepK (kv4.trans (keepsE wX))
    have hXw:=own_ext wX hX4
    have hPw:=own_ext wX hP4
    have hZw:=own_ext wX hZ4
    have hOw:=own_ext wX hO4
    have hMw:MemoOk G items (h4.var 75 [.bool false,.int .i64 0,.slice none 0 0] [.bool true,.int .i64 (e:Int),kv]) (fun x=>B x∨ownB v x) (fun q=>F q∨ownF h' v q) (max fc f4) mm memo4:=hM4.extS (S:=fun _=>False) wX.toS (fun _ _ _ _ c=>c) (fun c=>c) (Nat.le_refl _)
    have hKw:=hkv.keep (keepsE wX).any
    have hkw:Keeps (fun _=>False) (fun _=>False) h' (h4.var 75 [.bool false,.int .i64 0,.slice none 0 0] [.bool true,.int .i64 (e:Int),kv]):=kv4.trans (keepsE wX)
    have hon4:ob≠h4.next:=Nat.ne_of_lt hO4.2.1
    simp -dsimp only [go_sem,wS,load_own wO]
    generalize h4.var 75 [.bool false,.int .i64 0,.slice none 0 0] [.bool true,.int .i64 (e:Int),kv]=hw at wS wO wX wB wR hMi4 hXw hPw hZw hOw hMw hKw hkw ⊢
    have hos:=stores_own hOw (o:=1) (vs:=[.int .i64 (e:Int)]) (c1:=[.bool true,.int .i64 (e:Int),v]) rfl rfl (by simp)
    have hOp:=own_put_same hOw [.bool true,.int .i64 (e:Int),v]
    have wOp:=own_put wO (d:=ob) hon4.symm (.cells ⟨[.bool true,.int .i64 (e:Int),v],75,0,0,false⟩)
    have hpo:ExtS (Only ob) hw (hw.put ob (.cells ⟨[.bool true,.int .i64 (e:Int),v],75,0,0,false⟩)):=((Ext.refl hw).toS (S:=Only ob)).put (b:=ob) (.inr rfl) _
    have hpN:=keepsN hpo (noRow_own hOw (by decide))
    simp -dsimp only [go_sem,load_own wO,e10,hos]
    have hXp:=own_extS hpo hXw (by show xb≠ob;omega)
    have hPp:=own_extS hpo hPw (by
     intro c
     have c':pb=ob:=c
     have:=hPw.2.2;rw [c',hOw.2.2] at this;simp at this)
    have hZp:=own_extS hpo hZw hzo
    have hMp:MemoOk G items _ (fun x=>B x∨ownB v x) (fun q=>F q∨ownF h' v q) (max fc f4) mm memo4:=hMw.extS hpo (noRow_own hOw (by decide)) (by show mm≠ob;omega) (Nat.le_refl _)
    have hMip:=hMi4.keepK hpN
    have hKp:=hKw.keep hpN.any
    have hkp:=hkw.trans hpN
    have hxp:ExtS (Two xb mm) h (hw.put ob (.cells ⟨[.bool true,.int .i64 (e:Int),v],75,0,0,false⟩)):=(hx04.trans wX.toS).put (.inl hon) _
    have hn2p:h2.next≤(hw.put ob (.cells ⟨[.bool true,.int .i64 (e:Int),v],75,0,0,false⟩)).next:=Nat.le_trans hn24 wX.next
    have hf2p:h2.nfam≤(hw.put ob (.cells ⟨[.bool true,.int .i64 (e:Int),v],75,0,0,false⟩)).nfam:=Nat.le_trans hf24 wX.nfam
    generalize (hw.put ob (.cells ⟨[.bool true,.int .i64 (e:Int),v],75,0,0,false⟩))=h5 at hOp wOp hXp hPp hZp hMp hMip hKp hkp hxp hn2p hf2p ⊢
    have hK5:KidsAt h5 (fun x=>B x∨ownB v x) (fun q=>F q∨ownF h5 v q) ks kv:=hKp.more (fun b _ c=>c) (fun f c=>.inl (c.elim .inl (fun c=>.inr (hMi.ownF_sameK hkp c))))
    have hM5:MemoOk G items h5 (fun x=>B x∨ownB v x) (fun q=>F q∨ownF h5 v q) (max fc f4) mm memo4:=hMp.more (fun b _ c=>c) (fun f c=>.inl (c.elim .inl (fun c=>.inr (hMi.ownF_sameK hkp c))))
    have hb5:h5.base≤h5.next:=ext_bn hxp hb
    have hsz:acc.length+ks.length≤1000000:=by
     rw [ho''] at ho3
     simp only [joinO] at ho3
     omega
    obtain ⟨v',h6,ha6,hM6,hext6,hkp6,hvB,hvF⟩:=mine_append hMip hK5 hb5 hn2p hf2p hsz (fun x c=>Nat.lt_of_lt_of_le (hBnd.b x c) hxp.next) (fun q c=>Nat.lt_of_lt_of_le (hBnd.f q c).2 hxp.nfam)
    have hx6:=hext6 (Two xb mm) h hxp hn02 hf02
    obtain ⟨hob6,_⟩:=below_same hext6 hn2p hf2p
    have lt2:∀{y:Nat} {e:TypeId} {c:List Value},h2.own y e c→y<h2.next:=fun k=>k.2.1
    have hbase6:h6.base=h5.base:=hx6.base.trans hxp.base.symm
    have hX6:=own_same hXp (hob6 xb (by omega)) hbase6 hkp6.next
    have hP6:=own_same hPp (hob6 pb (lt2 hP)) hbase6 hkp6.next
    have hZ6:=own_same hZp (hob6 zb (lt2 hZ)) hbase6 hkp6.next
    have hO6:=own_same hOp (hob6 ob (lt2 hO)) hbase6 hkp6.next
    have hMe6:=memo_append hM5 hMip hM6 hkp6 hvB hvF (hob6 mm (by omega))
    obtain ⟨A7,n7,c7,rfl,hsp7⟩:=hM6.slice
    have hos2:=stores_own hO6 (o:=2) (vs:=[.slice A7 n7 c7]) (c1:=[.bool true,.int .i64 (e:Int)  ,.slice A7 n7 c7]) rfl rfl (by simp)
    have hO7:=own_put_same hO6 [.bool true,.int .i64 (e:Int),.slice A7 n7 c7]
    have hpo7:ExtS (Only ob) h6 (h6.put ob (.cells ⟨[.bool true,.int .i64 (e:Int),.slice A7 n7 c7],75,0,0,false⟩)):=((Ext.refl h6).toS (S:=Only ob)).put (b:=ob) (.inr rfl) _
    have hpN7:=keepsN hpo7 (noRow_own hO6 (by decide))
    simp -dsimp only [go_sem,load_own hOp,load_own wOp,e0,e6,e10,e95,e96,e97,builtin',ha6,hos2,wrap64_succ hlt (Nat.le_trans hlb (by decide))]
    refine ⟨l.length - (i+1),by omega,i+1,e,max fc f4,kk',acc++ks,.slice A7 n7 c7,memo4,o'',hlt,rfl,hx6.put (.inl hon) _,Nat.le_trans hn2p hkp6.next,Nat.le_trans hf2p hkp6.nfam,own_extS hpo7 hX6 (by show xb≠ob;omega),Nat.max_le.2 ⟨hfc,hfn⟩,hen,own_extS hpo7 hP6 ?_,own_extS hpo7 hZ6 hzo,hO7,hM6.keepK hpN7,?_,by omega,hrun'',?_,?_,?_,rfl⟩
    ·intro c
     have c':pb=ob:=c
     have:=hP6.2.2;rw [c',hO6.2.2] at this;simp at this
    ·exact (hMe6.extS hpo7 (noRow_own hO6 (by decide)) (by show mm≠ob;omega) (Nat.le_refl _)).more (fun b _ c=>c) (fun f c=>.inl (c.elim .inl (fun c=>.inr (hM6.ownF_sameK hpN7 c))))
    ·rw [←ho1,ho''];rfl
    ·rw [←ho2,ho''];simp only [joinO,Nat.max_assoc]
    ·rw [ho''] at ho3
     simp only [joinO] at ho3
     rw [List.length_append]
     omega
 ·have hi0:decide ((i:Int)<(l.length:Int))=false:=decide_eq_false (by omega)
  have hil:i=l.length:=by omega
  subst hil
  rw [List.drop_length] at hrk
  have ho':o'=(some (acc,q'),0,0):=by
   cases kk with
   | zero=>cases hrk
   | succ kk =>
     change some (some (acc,q'),0,0)=some o' at hrk
     injection hrk with hrk
     exact hrk.symm
  rw [ho'] at ho1 ho2
  simp only [Nat.max_zero] at ho2
  simp -dsimp only [go_sem,e96,e97,hi0]
  refine hq0 _ _ _ _ _ ⟨memo',hxh,?_,?_,?_⟩ hO' hZ' (by simp -dsimp only [go_sem,e6]) (by simp -dsimp only [go_sem,e10])
  ·rw [←ho2];exact hX'
  ·rw [←ho2];exact hMe.more (fun b _ c=>.inl c) (fun f c=>.inl (.inl c))
  ·rw [←ho1]
   exact ⟨v,rfl,hMi.kidsAt (fun b c=>Nat.lt_of_lt_of_le (hBnd.b b c) hn02) (fun f c=>⟨(hBnd.f f c).1,Nat.lt_of_lt_of_le (hBnd.f f c).2 hf02⟩)⟩
end Go.Ev.G24
end
section
namespace Go.Ev.G24
open Go.RowKit Go.Proofs
variable {r:Ro} {G:List Rule} {items:List ByteArray} {Gv Iv:Option Addr} {gc ic xb mm bk m eb:Nat} {em:List Bool} {B F:Nat→Prop}
set_option maxHeartbeats 8000000 in
set_option maxRecDepth 10000 in
theorem take_or {k:Nat} {d t:ByteArray} {l:List Part} {Av:Option Addr} {c b o zb:Nat} {css:Nat→List Value} (ih:∀(i:Nat) (p:Part),l[i]? = some p→TakeC r G items Gv Iv gc ic xb mm bk m eb em k p)
  (hlb:l.length≤100000) (hA:l≠[]→Av=some ⟨b,o,none⟩) (hat:∀(i:Nat) (p:Part),l[i]? = some p→roAt r b (o+i*3) (css i)) (hk:∀(i:Nat) (p:Part),l[i]? = some p→RoPart r p (css i))
  {h:Hp} {far q:Nat} {memo:Memo} (hrom:h.rom=r) (hb:h.base≤h.next) (hBnd:Bnd h B F) (hX:h.own xb 128 (runRow bk Iv items.length ic mm far)) (hM:MemoOk G items h B F far mm memo) (hBk:Book h bk m eb (.slice Gv G.length gc) (nms G) em) (hmne:m≠mm) (hfar:far≤items.length) (hq:q≤items.length) {o9:Outc} (hrun:run G items k (.alt l q)=some o9) (ho9:o9.2.1≤50000)
  {a:Ev.A} {h2:Hp} {Q:Ex→Ev.A→Hp→Prop} (hn:a.n=189) (hx:Ext h h2) {zc:List Value} (hzl:zc.length=3) (hZ:h2.own zb 75 zc) (hzn:h.next≤zb)
  (g0:a.get 0=.pointer (some ⟨xb,0,none⟩)) (g2:a.get 2=.int .i64 (q:Int)) (g6:a.get 6=.pointer (some ⟨zb,0,none⟩)) (g124:a.get 124=.slice Av l.length c) (g125:a.get 125=.int .i64 l.length) (g126:a.get 126=.int .i64 0)
  (hq1:∀a1 h1 x y z,TakeP G items B F bk Iv ic mm xb o9 far h (.agg #[x,y,z]) h1→h1.own zb 75 [x,y,z]→a1.get 6=.pointer (some ⟨zb,0,none⟩)→Q .ret a1 h1)
  (hq0:∀a1 h1,TakeP G items B F bk Iv ic mm xb o9 far h (.agg #[.bool false,.int .i64 0,.slice none 0 0]) h1→h1.own zb 75 zc→a1.get 6=.pointer (some ⟨zb,0,none⟩)→Q (.exit 3) a1 h1) :
  Th Try.prog (bodyAt Try.f70 [1,0,1,0,1,1,1,1,1,1,1,1,1,0,0,1,0]) a h2 Q ⟨⟩ ⟨⟩:=by
 have hxm:∀{h':Hp},ExtS (Two xb mm) h h'→Book h' bk m eb (.slice Gv G.length gc) (nms G) em:=fun x=>hBk.two ⟨_,hX⟩ hM.at'.map hmne x
 have hxbn:xb<h.next:=hX.2.1
 have hmmn:mm<h.next:=hM.at'.1
 have hX2:=own_ext hx hX
 have hM2:MemoOk G items h2 B F far mm memo:=hM.extS (S:=fun _=>False) hx.toS (fun _ _ _ _ c=>c) (fun c=>c) (Nat.le_refl _)
 simp only [bodyAt,nav,Try.f70]
 refine loop_go (n:=189) (by kernel_rfl) (fun m' a' h'=>∃(i fc kk:Nat) (memo':Memo) (o':Outc),i≤l.length∧m'=l.length - i∧ExtS (Two xb mm) h h'∧h'.own xb 128 (runRow bk Iv items.length ic mm fc)∧fc≤items.length ∧
  h'.own zb 75 zc∧MemoOk G items h' B F fc mm memo'∧kk≤k∧run G items kk (.alt (l.drop i) q)=some o'∧o'.1=o9.1∧max fc o'.2.2=max far o9.2.2∧o'.2.1≤o9.2.1 ∧
  a'.get 0=.pointer (some ⟨xb,0,none⟩)∧a'.get 2=.int .i64 (q:Int)∧a'.get 6=.pointer (some ⟨zb,0,none⟩)∧a'.get 124=.slice Av l.length c∧a'.get 125=.int .i64 l.length∧a'.get 126=.int .i64 i) ?_ l.length _ _ hn ⟨0,far,k,memo,o9,Nat.zero_le _,rfl,hx.toS,hX2,hfar,hZ,hM2,Nat.le_refl _,by rw [List.drop_zero];exact hrun,rfl,rfl,Nat.le_refl _,g0,g2,g6,g124,g125,g126⟩
 rintro m' a' h' hn' ⟨i,fc,kk,memo',o',hi,rfl,hxh,hX',hfc,hZ',hMe,hkk,hrk,ho1,ho2,ho3,e0,e2,e6,e95,e96,e97⟩
 have hrom':h'.rom=r:=ext_rom hxh hrom
 have hb':h'.base≤h'.next:=ext_bn hxh hb
 by_cases hlt:i<l.length
 ·have hpi:l[i]? = some l[i]:=List.getElem?_eq_getElem hlt
  have hi1:decide ((i:Int)<(l.length:Int))=true:=decide_eq_true (Int.ofNat_lt.2 hlt)
  obtain ⟨Av1,c1',hcs⟩:=(hk i _ hpi).shape
  have hat':=hat i _ hpi
  have hkid:=hk i _ hpi
  rw [hcs] at hat' hkid
  have hAv:=hA (ne_nil hlt)
  subst hAv
  have hdr:l.drop i=l[i]::l.drop (i+1):=List.drop_eq_getElem_cons hlt
  rw [hdr] at hrk
  obtain ⟨kk',r4,n4,f4,hkk',hr4,hmt⟩:=alt_inv hrk
  obtain ⟨vS,vO,vX,vB,vR⟩:=var_ok hb' (e:=52) (c0:=[.string ⟨#[]⟩,.string ⟨#[]⟩,.slice none 0 0]) (c1:=[.string l[i].d,.string l[i].t,.slice Av1 l[i].l.length c1']) rfl rfl (by simp)
  simp -dsimp only [go_sem,e0,e2,e6,e95,e96,e97,hi1,ia50 hlt,loads_ro (n:=3) hrom' hat' rfl,vS,loads_own vO]
  generalize h'.var 52 [.string ⟨#[]⟩,.string ⟨#[]⟩,.slice none 0 0] [.string l[i].d,.string l[i].t,.slice Av1 l[i].l.length c1']=hv at vS vO vX vB vR ⊢
  have hxv:=hxh.trans (vX.toS (S:=Two xb mm))
  have hXv:=own_ext vX hX'
  have hMv:MemoOk G items hv B F fc mm memo':=hMe.extS (S:=fun _=>False) vX.toS (fun _ _ _ _ c=>c) (fun c=>c) (Nat.le_refl _)
  have hn4:n4≤50000:=by
   cases r4 with
   | some y=>rw [show o'=(some y,n4,f4) from hmt] at ho3;simp at ho3;omega
   | none =>
     obtain ⟨o'',_,e2⟩:=hmt
     rw [e2] at ho3
     simp only [joinO] at ho3
     omega
  obtain ⟨v4,h4,hs4,memo4,hx4,hX4,hM4,hV4⟩:=ih i _ hpi B F fc q hv _ memo' _ (hBnd.mono hxv) hfc hq (vR.trans hrom') vB hXv hMv (hxm hxv) hkid (run_le (by omega:kk'≤k) _ _ hr4) hn4
  refine ⟨_,h4,hs4,?_⟩
  have hx04:=hxv.trans hx4
  have hfn:=(run_fair _ _ _ (show placeT (.part l[i] q)≤items.length from hq) hr4).1
  have hZ4:=own_extS hx4 (own_ext vX hZ') (by rintro (c|c)<;>omega)
  have hb4:h4.base≤h4.next:=ext_bn hx04 hb
  cases r4 with
  | some y =>
    obtain ⟨ks,e⟩:=y
    have hmt:o'=(some (ks,e),n4,f4):=hmt
    obtain ⟨kv,rfl,hkv⟩:=hV4
    obtain ⟨A9,c9,rfl,hsp9⟩:=hkv.slice
    obtain ⟨wS,wO,wX,wB,wR⟩:=var_ok hb4 (e:=75) (c0:=[.bool false,.int .i64 0,.slice none 0 0]) (c1:=[.bool true,.int .i64 (e:Int),.slice A9 ks.length c9]) rfl rfl (by simp)
    have hZ5:=own_ext wX hZ4
    have hzs:=stores_own hZ5 (o:=0) (vs:=[.bool true,.int .i64 (e:Int),.slice A9 ks.length c9]) (c1:=[.bool true,.int .i64 (e:Int),.slice A9 ks.length c9]) rfl (by
     match zc,hzl with
     | [x,y,z],_=>rfl) (by simp)
    simp -dsimp only [go_sem,wS,load_own wO,loads_own wO,e6,hzs]
    have hTP:TakeP G items B F bk Iv ic mm xb o9 far h (.agg #[.bool true,.int .i64 (e:Int),.slice A9 ks.length c9]) (h4.var 75 [.bool false,.int .i64 0,.slice none 0 0] [.bool true,.int .i64 (e:Int),.slice A9 ks.length c9]):=by
     refine ⟨memo4,hx04.trans wX.toS,?_,?_,?_⟩
     ·rw [←ho2,hmt];exact own_ext wX hX4
     ·rw [←ho2,hmt]
      exact hM4.extS (S:=fun _=>False) wX.toS (fun _ _ _ _ c=>c) (fun c=>c) (Nat.le_refl _)
     ·rw [←ho1,hmt]
      exact ⟨_,rfl,hkv.keep (keepsE wX).any⟩
    exact hq1 _ _ _ _ _ (hTP.put hzn hZ5 (by decide) hxbn hmmn) (own_put_same hZ5 _) (by simp -dsimp only [go_sem,e6])
  | none =>
    obtain ⟨o'',hrun'',ho''⟩:=hmt
    have hV4:v4=.agg #[.bool false,.int .i64 0,.slice none 0 0]:=hV4
    subst hV4
    obtain ⟨wS,wO,wX,wB,wR⟩:=var_ok hb4 (e:=75) (c0:=[.bool false,.int .i64 0,.slice none 0 0]) (c1:=[.bool false,.int .i64 0,.slice none 0 0]) rfl rfl (by simp)
    simp -dsimp only [go_sem,wS,load_own wO,e0,e2,e6,e95,e96,e97,wrap64_succ hlt (Nat.le_trans hlb (by decide))]
    refine ⟨l.length - (i+1),by omega,i+1,max fc f4,kk',memo4,o'',hlt,rfl,hx04.trans wX.toS,own_ext wX hX4,Nat.max_le.2 ⟨hfc,hfn⟩,own_ext wX hZ4,hM4.extS (S:=fun _=>False) wX.toS (fun _ _ _ _ c=>c) (fun c=>c) (Nat.le_refl _),by omega,hrun'',?_,?_,?_,rfl⟩
    ·rw [←ho1,ho''];rfl
    ·rw [←ho2,ho''];simp only [joinO,Nat.max_assoc]
    ·rw [ho''] at ho3
     simp only [joinO] at ho3
     omega
 ·have hi0:decide ((i:Int)<(l.length:Int))=false:=decide_eq_false (by omega)
  have hil:i=l.length:=by omega
  subst hil
  rw [List.drop_length] at hrk
  have ho':o'=(none,0,0):=by
   cases kk with
   | zero=>cases hrk
   | succ kk =>
     change some (none,0,0)=some o' at hrk
     injection hrk with hrk
     exact hrk.symm
  rw [ho'] at ho1 ho2
  simp only [Nat.max_zero] at ho2
  simp -dsimp only [go_sem,e96,e97,hi0]
  refine hq0 _ _ ⟨memo',hxh,?_,?_,?_⟩ hZ' (by simp -dsimp only [go_sem,e6])
  ·rw [←ho2];exact hX'
  ·rw [←ho2];exact hMe
  ·rw [←ho1];rfl
end Go.Ev.G24
end
