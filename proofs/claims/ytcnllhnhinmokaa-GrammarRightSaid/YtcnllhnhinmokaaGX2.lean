/- For every grammar and rule, Recursive, Empty and First (a range over a map, then sorted) answer as the reference's (no condition on the arguments): part 3 of 4. -/
import Derived.Test.YtcnllhnhinmokaaGX1
import Derived.Sort.Grow
import Derived.Sort.EncStr
import Derived.Shelf.Sort.Plain
import Derived.Shelf.Slices.In.SortNone
import Derived.Test.YtcnllhnhinmokaaProg
set_option linter.unusedVariables false
set_option linter.unusedSimpArgs false
section
namespace Go.Ev.G24
open Go.RowKit Go.Proofs
variable {r:Ro}
mutual
def fits:Part→Prop
 | ⟨d,t,l⟩=>t.size≤4611686018427387904∧fitsL l
def fitsL:List Part→Prop
 | []=>True
 | x::l=>fits x∧fitsL l
end
theorem fitsL_get:∀{l:List Part},fitsL l→∀(i:Nat) (p:Part),l[i]? = some p→fits p
 | x::l,h,0,p,hp=>by simp at hp;subst hp;exact h.1
 | x::l,h,i+1,p,hp=>fitsL_get h.2 i p (by simpa using hp)
def kindOk (nm:List ByteArray) (d t:ByteArray) (n:Nat):Bool :=
 if d.data.toList=[105,115] then decide (n=0)&&atomB t
 else if d.data.toList=[114,117,108,101] then decide (n=0)&&decide (idxOf nm t<nm.length)
 else if t.data.toList≠[] then false
 else if d.data.toList=[97,110,121]∨d.data.toList=[110,111,116,104,105,110,103] then decide (n=0)
 else if d.data.toList=[115,101,113]∨d.data.toList=[111,114] then decide (1≤n)
 else if d.data.toList=[109,97,110,121]∨d.data.toList=[111,112,116]∨d.data.toList=[110,111,116] then decide (n=1)
 else false
mutual
def rightP (nm:List ByteArray):Part→Bool
 | ⟨d,t,l⟩=>rightL nm l&&kindOk nm d t l.length
def rightL (nm:List ByteArray):List Part→Bool
 | []=>true
 | x::l=>rightP nm x&&rightL nm l
end
theorem int_eq0 (n:Nat):decide ((n:Int)=0)=decide (n=0):=by rw [decide_eq_decide];omega
theorem int_eq1 (n:Nat):decide ((n:Int)=1)=decide (n=1):=by rw [decide_eq_decide];omega
theorem int_ge1 (n:Nat):decide (1≤(n:Int))=decide (1≤n):=by rw [decide_eq_decide];omega
def RightC (r:Ro) (m:Nat) (nm:List ByteArray) (p:Part):Prop:=∀(h:Hp) (cs:List Value),h.rom=r→h.base≤h.next→MapAt h m nm→RoPart r p cs→fits p →
 ∃v h1,Snd Try.prog 67 [.agg cs.toArray,.map (some m)] h v h1∧v=.bool (rightP nm p)∧Ext h h1
set_option maxHeartbeats 4000000 in
set_option maxRecDepth 10000 in
theorem right_c {m:Nat} {nm:List ByteArray}:∀(n:Nat) (p:Part),SizeOf.sizeOf p<n→RightC r m nm p:=by
 intro n
 induction n with
 | zero=>exact fun p hp=>absurd hp (Nat.not_lt_zero _)
 | succ n ihn =>
 rintro ⟨d,t,l⟩ hn h cs hrom hb hM hp hft
 have ih:∀(i:Nat) (p:Part),l[i]? = some p→RightC r m nm p:=fun i p hp=>ihn p (by
  have:=List.sizeOf_lt_of_mem (List.mem_of_getElem? hp)
  simp only [Part.mk.sizeOf_spec] at hn
  omega)
 have hnk:∀(i:Nat) (p:Part),l[i]? = some p→fits p:=fitsL_get hft.2
 cases hp with
 | mk _ _ _ Av c b o css hc hlb hA hat hk hs =>
 refine snd_go wf Try.func67 rfl rfl (n:=71) rfl (by kernel_rfl) rfl ?_
 intro a hn hg
 have hr:Try.f67.results.toList=[.tmp 4]:=rfl
 have g0:=hg 0
 have g1:=hg 1
 clear hg
 simp only [List.getElem?_cons_zero,List.getElem?_cons_succ] at g0 g1
 have hP:=own_new hb 52 [.string d,.string t,.slice Av l.length c]
 have hx0:=Ext.new h (CObj.cells ⟨[.string d,.string t,.slice Av l.length c],52,0,0,false⟩)
 have hb1:=Nat.le_succ_of_le (m:=h.next) hb
 have hM0:=hM.ext hx0
 have e:rightP nm ⟨d,t,l⟩=(rightL nm l&&kindOk nm d t l.length):=by rw [rightP]
 simp -dsimp only [go_sem,g0,g1,load_own hP]
 refine loop_go (n:=71) (by kernel_rfl) (fun m' a' h'=>∃i:Nat,i≤l.length∧m'=l.length - i∧Ext (h.newH (CObj.cells ⟨[.string d,.string t,.slice Av l.length c],52,0,0,false⟩)) h'∧rightL nm (l.drop i)=rightL nm l ∧
  a'.get 1=.map (some m)∧a'.get 2=.pointer (some ⟨h.next,0,none⟩)∧a'.get 5=.int .i64 l.length∧a'.get 14=.slice Av l.length c∧a'.get 15=.int .i64 l.length∧a'.get 16=.int .i64 i) ?_ l.length _ _ (by simp -dsimp only [go_sem,hn]) ⟨0,Nat.zero_le _,rfl,Ext.refl _,rfl,by simp -dsimp only [go_sem,g1];rfl⟩
 rintro m' a' h' hn' ⟨i,hi,rfl,hx,hst,e1,e2,e5,e14,e15,e16⟩
 have hrom':h'.rom=r:=hx.rom.trans hrom
 have hb':h'.base≤h'.next:=by rw [hx.base];exact Nat.le_trans hb1 hx.next
 by_cases hlt:i<l.length
 ·have hpi:l[i]? = some l[i]:=List.getElem?_eq_getElem hlt
  have hi1:decide ((i:Int)<(l.length:Int))=true:=decide_eq_true (Int.ofNat_lt.2 hlt)
  obtain ⟨Av1,c1',hcs⟩:=(hk i _ hpi).shape
  have hat':=hat i _ hpi
  have hkid:=hk i _ hpi
  rw [hcs] at hat' hkid
  have hAv:=hA (ne_nil hlt)
  subst hAv
  obtain ⟨vS,vO,vX,vB,vR⟩:=var_ok hb' (e:=52) (c0:=[.string ⟨#[]⟩,.string ⟨#[]⟩,.slice none 0 0]) (c1:=[.string l[i].d,.string l[i].t,.slice Av1 l[i].l.length c1']) rfl rfl (by simp)
  simp -dsimp only [go_sem,e1,e2,e5,e14,e15,e16,hi1,ia50 hlt,loads_ro (n:=3) hrom' hat' rfl,vS,loads_own vO]
  obtain ⟨_,h2,hs,rfl,hx2⟩:=ih i _ hpi _ _ (vR.trans hrom') vB ((hM0.ext hx).ext vX) hkid (hnk i _ hpi)
  refine ⟨_,h2,hs,?_⟩
  rw [List.drop_eq_getElem_cons hlt,rightL] at hst
  have hx3:=hx.trans (vX.trans hx2)
  simp -dsimp only [go_sem]
  refine Wcond_in (fun hm => ?_) (fun hm => ?_)
  ·simp -dsimp only [go_sem,hr]
   refine ⟨?_,hx0.trans hx3⟩
   have hm':rightP nm l[i]=false:=by simpa using hm
   rw [e,←hst,hm']
   rfl
  ·simp -dsimp only [go_sem,e15,e16,wrap64_succ hlt hlb]
   have hm':rightP nm l[i]=true:=by simpa using hm
   rw [hm',Bool.true_and] at hst
   exact ⟨l.length - (i+1),by omega,i+1,hlt,rfl,hx3,hst,e1,e2,e5,e14,rfl⟩
 ·have hi0:decide ((i:Int)<(l.length:Int))=false:=decide_eq_false (by omega)
  rw [List.drop_eq_nil_of_le (by omega),rightL] at hst
  rw [←hst,Bool.true_and] at e
  have hP':=own_ext hx hP
  have hM':=hM0.ext hx
  simp -dsimp only [go_sem,e2,e15,e16,hi0,load_own hP']
  have hx9:=hx0.trans hx
  by_cases c1:d.data.toList=[105,115]
  ·by_cases cn:l.length=0
   ·have kn:decide ((l.length:Int)=0)=true:=by rw [int_eq0];exact decide_eq_true cn
    simp -dsimp only [go_sem,decide_eq_true c1,e2,e5,kn,load_own hP',hr]
    refine ⟨_,_,atom_c t hft.1 _,?_⟩
    exact ⟨by rw [e];simp [kindOk,c1,cn],hx9⟩
   ·have kn:decide ((l.length:Int)=0)=false:=by rw [int_eq0];exact decide_eq_false cn
    simp -dsimp only [go_sem,undef',decide_eq_true c1,e2,e5,kn,load_own hP',hr]
    exact ⟨by rw [e];simp [kindOk,c1,cn],hx9⟩
  by_cases c2:d.data.toList=[114,117,108,101]
  ·by_cases cn:l.length=0
   ·have kn:decide ((l.length:Int)=0)=true:=by rw [int_eq0];exact decide_eq_true cn
    by_cases ci:idxOf nm t<nm.length
    ·simp -dsimp only [go_sem,undef',decide_eq_false c1,decide_eq_true c2,e1,e2,e5,kn,load_own hP',hM'.hit ci,hr]
     exact ⟨by rw [e];simp [kindOk,c2,cn,ci],hx9⟩
    ·simp -dsimp only [go_sem,undef',decide_eq_false c1,decide_eq_true c2,e1,e2,e5,kn,load_own hP',hM'.miss ci,hr]
     exact ⟨by rw [e];simp [kindOk,c2,cn,ci],hx9⟩
   ·have kn:decide ((l.length:Int)=0)=false:=by rw [int_eq0];exact decide_eq_false cn
    by_cases ci:idxOf nm t<nm.length
    ·simp -dsimp only [go_sem,undef',decide_eq_false c1,decide_eq_true c2,e1,e2,e5,kn,load_own hP',hM'.hit ci,hr]
     exact ⟨by rw [e];simp [kindOk,c2,cn,ci],hx9⟩
    ·simp -dsimp only [go_sem,undef',decide_eq_false c1,decide_eq_true c2,e1,e2,e5,kn,load_own hP',hM'.miss ci,hr]
     exact ⟨by rw [e];simp [kindOk,c2,cn,ci],hx9⟩
  by_cases c3:t.data.toList=[]
  rotate_left
  ·simp -dsimp only [go_sem,decide_eq_false c1,decide_eq_false c2,decide_eq_false c3,e2,e5,load_own hP',hr]
   exact ⟨by rw [e];simp [kindOk,c1,c2,c3],hx9⟩
  by_cases c4:d.data.toList=[97,110,121]
  ·simp -dsimp only [go_sem,decide_eq_false c1,decide_eq_false c2,decide_eq_true c3,decide_eq_true c4,e2,e5,load_own hP',int_eq0,hr]
   exact ⟨by rw [e];simp [kindOk,c3,c4],hx9⟩
  by_cases c5:d.data.toList=[110,111,116,104,105,110,103]
  ·simp -dsimp only [go_sem,decide_eq_false c1,decide_eq_false c2,decide_eq_true c3,decide_eq_false c4,decide_eq_true c5,e2,e5,load_own hP',int_eq0,hr]
   exact ⟨by rw [e];simp [kindOk,c3,c5],hx9⟩
  by_cases c6:d.data.toList=[115,101,113]
  ·simp -dsimp only [go_sem,decide_eq_false c1,decide_eq_false c2,decide_eq_true c3,decide_eq_false c4,decide_eq_false c5,decide_eq_true c6,e2,e5,load_own hP',int_ge1,hr]
   exact ⟨by rw [e];simp [kindOk,c3,c6],hx9⟩
  by_cases c7:d.data.toList=[111,114]
  ·simp -dsimp only [go_sem,decide_eq_false c1,decide_eq_false c2,decide_eq_true c3,decide_eq_false c4,decide_eq_false c5,decide_eq_false c6,decide_eq_true c7,e2,e5,load_own hP',int_ge1,hr]
   exact ⟨by rw [e];simp [kindOk,c3,c7],hx9⟩
  by_cases c8:d.data.toList=[109,97,110,121]
  ·simp -dsimp only [go_sem,decide_eq_false c1,decide_eq_false c2,decide_eq_true c3,decide_eq_false c4,decide_eq_false c5,decide_eq_false c6,decide_eq_false c7,decide_eq_true c8,e2,e5,load_own hP',int_eq1,hr]
   exact ⟨by rw [e];simp [kindOk,c3,c8],hx9⟩
  by_cases c9:d.data.toList=[111,112,116]
  ·simp -dsimp only [go_sem,decide_eq_false c1,decide_eq_false c2,decide_eq_true c3,decide_eq_false c4,decide_eq_false c5,decide_eq_false c6,decide_eq_false c7,decide_eq_false c8,decide_eq_true c9,e2,e5,load_own hP',int_eq1,hr]
   exact ⟨by rw [e];simp [kindOk,c3,c9],hx9⟩
  by_cases c10:d.data.toList=[110,111,116]
  ·simp -dsimp only [go_sem,decide_eq_false c1,decide_eq_false c2,decide_eq_true c3,decide_eq_false c4,decide_eq_false c5,decide_eq_false c6,decide_eq_false c7,decide_eq_false c8,decide_eq_false c9,decide_eq_true c10,e2,e5,load_own hP',int_eq1,hr]
   exact ⟨by rw [e];simp [kindOk,c3,c10],hx9⟩
  simp -dsimp only [go_sem,decide_eq_false c1,decide_eq_false c2,decide_eq_true c3,decide_eq_false c4,decide_eq_false c5,decide_eq_false c6,decide_eq_false c7,decide_eq_false c8,decide_eq_false c9,decide_eq_false c10,e2,e5,load_own hP',hr]
  exact ⟨by rw [e];simp [kindOk,c1,c2,c3,c4,c5,c6,c7,c8,c9,c10],hx9⟩
end Go.Ev.G24
end
section
namespace Go.Ev.G24
open Go.RowKit Go.Proofs
variable {r:Ro}
def rightRs (nm:List ByteArray):List Rule→Bool
 | []=>true
 | x::l=>(plainB x.name&&rightP nm x.body)&&rightRs nm l
def rightG (l:List Rule):Bool:=fresh [] (nms l) && !decide (l.length=0)&&rightRs (nms l) l
def fitsG (l:List Rule):Prop:=∀(i:Nat) (x:Rule),l[i]? = some x→x.name.size≤4611686018427387904∧fits x.body
set_option maxHeartbeats 4000000 in
set_option maxRecDepth 10000 in
theorem Right_c {l:List Rule} {Av:Option Addr} {c b o:Nat} {css:Nat→List Value} (R:RoRules r l Av c b o css) (hft:fitsG l) (h:Hp) (hrom:h.rom=r) (hb:h.base≤h.next) :
  ∃v h1,Snd Try.prog 34 [.agg #[.slice Av l.length c]] h v h1∧v=.bool (rightG l)∧Ext h h1:=by
 refine snd_go wf Try.func34 rfl rfl (n:=39) rfl (by kernel_rfl) rfl ?_
 intro a hn hg
 have hr:Try.f34.results.toList=[.tmp 2]:=rfl
 have g0:=hg 0
 clear hg
 simp only [List.getElem?_cons_zero,List.getElem?_cons_succ] at g0
 have hP:=own_new hb 24 [.slice Av l.length c]
 have hx0:=Ext.new h (CObj.cells ⟨[.slice Av l.length c],24,0,0,false⟩)
 have hb1:=Nat.le_succ_of_le (m:=h.next) hb
 simp -dsimp only [go_sem,g0,loads_own hP]
 generalize h.newH (CObj.cells ⟨[.slice Av l.length c],24,0,0,false⟩)=h0 at hP hx0 ⊢
 obtain ⟨_,h2,hs2,hx2,hv2⟩:=rules_c R h0 (hx0.rom.trans hrom) (by rw [hx0.base];exact Nat.le_trans hb hx0.next)
 refine ⟨_,h2,hs2,?_⟩
 have hP2:=own_ext hx2 hP
 by_cases cf:fresh [] (nms l)=true
 rotate_left
 ·rw [if_neg cf] at hv2
  subst hv2
  simp -dsimp only [go_sem,undef',hr]
  exact ⟨by simp [rightG,cf],hx0.trans hx2⟩
 rw [if_pos cf] at hv2
 obtain ⟨m,rfl,hm1,hM⟩:=hv2
 by_cases cn:l.length=0
 ·have kn:decide ((l.length:Int)=0)=true:=by rw [int_eq0];exact decide_eq_true cn
  simp -dsimp only [go_sem,load_own hP2,kn,hr]
  exact ⟨by simp [rightG,cn],hx0.trans hx2⟩
 have kn:decide ((l.length:Int)=0)=false:=by rw [int_eq0];exact decide_eq_false cn
 have e:rightG l=rightRs (nms l) l:=by simp [rightG,cf,cn]
 simp -dsimp only [go_sem,load_own hP2,kn,hr]
 have hx02:=hx0.trans hx2
 refine loop_go (n:=39) (by kernel_rfl) (fun m' a' h'=>∃i:Nat,i≤l.length∧m'=l.length - i∧Ext h2 h'∧rightRs (nms l) (l.drop i)=rightRs (nms l) l ∧
  a'.get 3=.map (some m)∧a'.get 21=.slice Av l.length c∧a'.get 22=.int .i64 l.length∧a'.get 23=.int .i64 i) ?_ l.length _ _ (by simp -dsimp only [go_sem,hn]) ⟨0,Nat.zero_le _,rfl,Ext.refl _,rfl,by simp -dsimp only [go_sem];rfl⟩
 rintro m' a' h' hn' ⟨i,hi,rfl,hx,hst,e3,e21,e22,e23⟩
 have hrom':h'.rom=r:=(hx02.trans hx).rom.trans hrom
 have hb':h'.base≤h'.next:=by rw [(hx02.trans hx).base];exact Nat.le_trans hb (hx02.trans hx).next
 by_cases hlt:i<l.length
 ·have hpi:l[i]? = some l[i]:=List.getElem?_eq_getElem hlt
  have hi1:decide ((i:Int)<(l.length:Int))=true:=decide_eq_true (Int.ofNat_lt.2 hlt)
  obtain ⟨Av1,c1',hcs⟩:=(R.hk i _ hpi).shape
  have hat':=R.hat i _ hpi
  have hkid:=R.hk i _ hpi
  rw [hcs] at hat' hkid
  have hAv:=R.hA (ne_nil hlt)
  subst hAv
  obtain ⟨vS,vO,vX,vB,vR⟩:=var_ok hb' (e:=54) (c0:=[.string ⟨#[]⟩,.string ⟨#[]⟩,.string ⟨#[]⟩,.slice none 0 0]) (c1:=[.string l[i].name,.string l[i].body.d,.string l[i].body.t,.slice Av1 l[i].body.l.length c1']) rfl rfl (by simp)
  rw [List.drop_eq_getElem_cons hlt,rightRs] at hst
  simp -dsimp only [go_sem,e3,e21,e22,e23,hi1,ia22 hlt,loads_ro (n:=4) hrom' hat' rfl,vS,load_own vO]
  refine ⟨_,_,plain_c l[i].name (hft i _ hpi).1 _,?_⟩
  cases hpl:plainB l[i].name with
  | false =>
    rw [hpl] at hst
    simp -dsimp only [go_sem,undef',hr]
    exact ⟨by rw [e,←hst];rfl,(hx02.trans hx).trans vX⟩
  | true =>
    rw [hpl,Bool.true_and] at hst
    simp -dsimp only [go_sem,e3,e22,e23,loads_own vO]
    obtain ⟨_,h4,hs4,rfl,hx4⟩:=right_c _ l[i].body (Nat.lt_succ_self _) _ _ (vR.trans hrom') vB ((hM.ext hx).ext vX) hkid (hft i _ hpi).2
    refine ⟨_,h4,hs4,?_⟩
    have hx5:=hx.trans (vX.trans hx4)
    cases hrp:rightP (nms l) l[i].body with
    | false =>
      rw [hrp] at hst
      simp -dsimp only [go_sem,hr]
      exact ⟨by rw [e,←hst];rfl,hx02.trans hx5⟩
    | true =>
      rw [hrp,Bool.true_and] at hst
      simp -dsimp only [go_sem,e22,e23,wrap64_succ hlt (Nat.le_trans R.hb (by decide))]
      exact ⟨l.length - (i+1),by omega,i+1,hlt,rfl,hx5,hst,e3,e21,rfl⟩
 ·have hi0:decide ((i:Int)<(l.length:Int))=false:=decide_eq_false (by omega)
  rw [List.drop_eq_nil_of_le (by omega),rightRs] at hst
  simp -dsimp only [go_sem,e22,e23,hi0,hr]
  exact ⟨by rw [e,←hst],hx02.trans hx⟩
end Go.Ev.G24
end
section
namespace Go.Ev.G24
open Go.RowKit Go.Proofs
variable {r:Ro}
theorem kind_rule {nm:List ByteArray} {d t:ByteArray} {n:Nat} (h:kindOk nm d t n=true) (hd:d.data.toList=[114,117,108,101]):idxOf nm t<nm.length:=by
 unfold kindOk at h
 rw [if_neg (by rw [hd];decide),if_pos hd,Bool.and_eq_true] at h
 exact of_decide_eq_true h.2
theorem kind_one {nm:List ByteArray} {d t:ByteArray} {n:Nat} (h:kindOk nm d t n=true) (hd:oneKid d):n=1:=by
 unfold kindOk at h
 have k1:d.data.toList≠[105,115]:=by rcases hd with hd|hd|hd<;>rw [hd]<;>decide
 have k2:d.data.toList≠[114,117,108,101]:=by rcases hd with hd|hd|hd<;>rw [hd]<;>decide
 have k3:¬(d.data.toList=[97,110,121]∨d.data.toList=[110,111,116,104,105,110,103]):=by rcases hd with hd|hd|hd<;>rw [hd]<;>decide
 have k4:¬(d.data.toList=[115,101,113]∨d.data.toList=[111,114]):=by rcases hd with hd|hd|hd<;>rw [hd]<;>decide
 rw [if_neg k1,if_neg k2] at h
 split at h
 ·cases h
 ·rw [if_pos (show _∨_∨_ from hd)] at h
  exact of_decide_eq_true h
mutual
theorem right_named {nm:List ByteArray}:∀(p:Part),rightP nm p=true→named nm p
 | ⟨d,t,l⟩,h=>by
   rw [rightP,Bool.and_eq_true] at h
   rw [named]
   exact ⟨kind_rule h.2,kind_one h.2,rightL_named l h.1⟩
theorem rightL_named {nm:List ByteArray}:∀(l:List Part),rightL nm l=true→namedL nm l
 | [],_=>by rw [namedL];trivial
 | x::l,h=>by
   rw [rightL,Bool.and_eq_true] at h
   rw [namedL]
   exact ⟨right_named x h.1,rightL_named l h.2⟩
end
theorem rightRs_get {nm:List ByteArray}:∀{l:List Rule},rightRs nm l=true→∀(i:Nat) (x:Rule),l[i]? = some x→rightP nm x.body=true
 | y::l,h,i,x,hx=>by
   rw [rightRs,Bool.and_eq_true,Bool.and_eq_true] at h
   cases i with
   | zero=>simp at hx;subst hx;exact h.1.2
   | succ i=>exact rightRs_get h.2 i x (by simpa using hx)
theorem rightG_named {l:List Rule} (h:rightG l=true):fresh [] (nms l)=true∧∀(i:Nat) (x:Rule),l[i]? = some x→named (nms l) x.body:=by
 rw [rightG,Bool.and_eq_true,Bool.and_eq_true] at h
 exact ⟨h.1.1,fun i x hx=>right_named _ (rightRs_get h.2 i x hx)⟩
def fineB (l:List Rule) (em:List Bool):Bool := !(recB l em).any (true == ·)
set_option maxHeartbeats 4000000 in
set_option maxRecDepth 10000 in
theorem usable_c {l:List Rule} {Av:Option Addr} {c b o:Nat} {css:Nat→List Value} (R:RoRules r l Av c b o css) (hft:fitsG l) (h:Hp) (hrom:h.rom=r) (hb:h.base≤h.next) :
  ∃v h1,Snd Try.prog 61 [.agg #[.slice Av l.length c]] h v h1∧Ext h h1∧(if rightG l=true then ∃bk m eb em,v=.tuple #[.pointer (some ⟨bk,0,none⟩),.bool (fineB l em)]∧h.next≤bk∧h.next≤m∧h.next≤eb∧Book h1 bk m eb (.slice Av l.length c) (nms l) em∧Found l em
   else v=.tuple #[.pointer none,.bool false]):=by
 refine snd_go wf Try.func61 rfl rfl (n:=15) rfl (by kernel_rfl) rfl ?_
 intro a hn hg
 have hr:Try.f61.results.toList=[.tmp 2,.tmp 3]:=rfl
 have g0:=hg 0
 clear hg
 simp only [List.getElem?_cons_zero,List.getElem?_cons_succ] at g0
 have hP:=own_new hb 24 [.slice Av l.length c]
 have hx0:=Ext.new h (CObj.cells ⟨[.slice Av l.length c],24,0,0,false⟩)
 simp -dsimp only [go_sem,g0,loads_own hP]
 generalize h.newH (CObj.cells ⟨[.slice Av l.length c],24,0,0,false⟩)=h0 at hP hx0 ⊢
 have hb0:h0.base≤h0.next:=by rw [hx0.base];exact Nat.le_trans hb hx0.next
 obtain ⟨_,h2,hs2,rfl,hx2⟩:=Right_c R hft h0 (hx0.rom.trans hrom) hb0
 refine ⟨_,h2,hs2,?_⟩
 have hP2:=own_ext hx2 hP
 have hx02:=hx0.trans hx2
 have hb2:h2.base≤h2.next:=by rw [hx02.base];exact Nat.le_trans hb hx02.next
 cases hrg:rightG l with
 | false =>
   simp -dsimp only [go_sem,hr]
   exact hx02
 | true =>
   obtain ⟨hfr,hnm⟩:=rightG_named hrg
   simp -dsimp only [go_sem,loads_own hP2]
   obtain ⟨_,h4,hs4,hx4,bk,m,eb,em,rfl,l1,l2,l3,hB,hF⟩:=open_c R hfr hnm h2 (hx02.rom.trans hrom) hb2
   refine ⟨_,h4,hs4,?_⟩
   have hx04:=hx02.trans hx4
   have hb4:h4.base≤h4.next:=by rw [hx04.base];exact Nat.le_trans hb hx04.next
   try simp -dsimp only [go_sem]
   obtain ⟨_,h5,hs5,hx5,ob,rfl,l4,hO⟩:=recursive_c R hnm h4 (hx04.rom.trans hrom) hb4 hB
   refine ⟨_,h5,hs5,?_⟩
   have hx05:=hx04.trans hx5
   have hb5:h5.base≤h5.next:=by rw [hx05.base];exact Nat.le_trans hb hx05.next
   try simp -dsimp only [go_sem]
   obtain ⟨_,h6,hs6,rfl,hx6⟩:=contains_c h5 hb5 hO (by rw [recB_len];exact R.hb) true
   rw [recB_len] at hs6
   refine ⟨_,h6,hs6,?_⟩
   simp -dsimp only [go_sem,hr]
   exact ⟨hx05.trans hx6,bk,m,eb,em,rfl,Nat.le_trans hx02.next l1,Nat.le_trans hx02.next l2,Nat.le_trans hx02.next l3,(hB.ext hx5).ext hx6,hF⟩
def withB (l:List Rule) (em:List Bool) (s:ByteArray):Bool:=fineB l em&&decide (idxOf (nms l) s<l.length)
def WithP (l:List Rule) (Av:Option Addr) (c:Nat) (s:ByteArray) (h:Hp) (v:Value) (h1:Hp):Prop:=Ext h h1 ∧
 ((v=.tuple #[.pointer none,.agg #[.string ⟨#[]⟩,.string ⟨#[]⟩,.slice none 0 0],.bool false]∧(rightG l=true→∃em,Found l em∧withB l em s=false)) ∨
   (rightG l=true∧∃bk m eb em,v=.tuple #[.pointer (some ⟨bk,0,none⟩),.agg #[.string ⟨#[114,117,108,101]⟩,.string s,.slice none 0 0],.bool true]∧h.next≤bk∧h.next≤m∧h.next≤eb∧Book h1 bk m eb (.slice Av l.length c) (nms l) em∧Found l em∧withB l em s=true))
set_option maxHeartbeats 4000000 in
set_option maxRecDepth 10000 in
theorem with_c {l:List Rule} {Av:Option Addr} {c b o:Nat} {css:Nat→List Value} (R:RoRules r l Av c b o css) (hft:fitsG l) (s:ByteArray) (h:Hp) (hrom:h.rom=r) (hb:h.base≤h.next) :
  ∃v h1,Snd Try.prog 45 [.agg #[.slice Av l.length c],.string s] h v h1∧WithP l Av c s h v h1:=by
 refine snd_go wf Try.func45 rfl rfl (n:=32) rfl (by kernel_rfl) rfl ?_
 intro a hn hg
 have hr:Try.f45.results.toList=[.tmp 4,.cell 5 52,.tmp 6]:=rfl
 have g0:=hg 0
 have g1:=hg 1
 clear hg
 simp only [List.getElem?_cons_zero,List.getElem?_cons_succ] at g0 g1
 have hnl:(nms l).length=l.length:=by simp [nms]
 have hP:=own_new hb 24 [.slice Av l.length c]
 have hx0:=Ext.new h (CObj.cells ⟨[.slice Av l.length c],24,0,0,false⟩)
 have hb0:=Nat.le_succ_of_le (m:=h.next) hb
 simp -dsimp only [go_sem,g0,g1,loads_own hP,next_newH]
 have hZ:=own_new (h:=h.newH (CObj.cells ⟨[.slice Av l.length c],24,0,0,false⟩)) hb0 52 [.string ⟨#[]⟩,.string ⟨#[]⟩,.slice none 0 0]
 have hP1:=own_newH hP (CObj.cells ⟨[.string ⟨#[]⟩,.string ⟨#[]⟩,.slice none 0 0],52,0,0,false⟩)
 have hx1:=hx0.trans (Ext.new _ (CObj.cells ⟨[.string ⟨#[]⟩,.string ⟨#[]⟩,.slice none 0 0],52,0,0,false⟩))
 simp -dsimp only [go_sem,loads_own hP1]
 simp only [next_newH] at hZ
 generalize (h.newH (CObj.cells ⟨[.slice Av l.length c],24,0,0,false⟩)).newH (CObj.cells ⟨[.string ⟨#[]⟩,.string ⟨#[]⟩,.slice none 0 0],52,0,0,false⟩)=h0 at hP1 hZ hx1 ⊢
 obtain ⟨_,h2,hs2,hx2,hv2⟩:=usable_c R hft h0 (hx1.rom.trans hrom) (by rw [hx1.base];exact Nat.le_trans hb hx1.next)
 refine ⟨_,h2,hs2,?_⟩
 have hx02:=hx1.trans hx2
 have hZ2:=own_ext hx2 hZ
 have hs0:=stores_own hZ2 (o:=0) (vs:=[.string ⟨#[]⟩,.string ⟨#[]⟩,.slice none 0 0]) (c1:=[.string ⟨#[]⟩,.string ⟨#[]⟩,.slice none 0 0]) rfl rfl (by simp)
 have hs1:=stores_own hZ2 (o:=0) (vs:=[.string ⟨#[114,117,108,101]⟩,.string s,.slice none 0 0]) (c1:=[.string ⟨#[114,117,108,101]⟩,.string s,.slice none 0 0]) rfl rfl (by simp)
 have hZ0:=own_put_same hZ2 [.string ⟨#[]⟩,.string ⟨#[]⟩,.slice none 0 0]
 have hZ1:=own_put_same hZ2 [.string ⟨#[114,117,108,101]⟩,.string s,.slice none 0 0]
 have hxe:=fun o:CObj=>hx02.put (b:=h.next+1) (Nat.le_succ _) o
 cases hrg:rightG l with
 | false =>
   rw [if_neg (by rw [hrg];simp)] at hv2
   subst hv2
   simp -dsimp only [go_sem,hs0,hr,loads_own hZ0]
   exact ⟨hxe _,.inl ⟨rfl,fun e=>by rw [hrg] at e;cases e⟩⟩
 | true =>
   rw [if_pos hrg] at hv2
   obtain ⟨bk,m,eb,em,rfl,l1,l2,l3,hB,hF⟩:=hv2
   cases hfi:fineB l em with
   | false =>
     simp -dsimp only [go_sem,hs0,hr,loads_own hZ0]
     exact ⟨hxe _,.inl ⟨rfl,fun _=>⟨em,hF,by simp [withB,hfi]⟩⟩⟩
   | true =>
     have hM:MapAt h2 m (nms l):=hB.map
     by_cases ci:idxOf (nms l) s<(nms l).length
     ·simp -dsimp only [go_sem,g1,load_own hB.own,hM.hit ci,hs1,hr,loads_own hZ1]
      have hne:bk≠h.next+1:=by have:=hx1.next;have:=hZ.2.1;omega
      refine ⟨hxe _,.inr ⟨hrg,bk,m,eb,em,rfl,by have:=hx1.next;omega,by have:=hx1.next;omega,by have:=hx1.next;omega,?_,hF,?_⟩⟩
      ·refine hB.extS (S:=Only (h.next+1)) (((Ext.refl h2).toS (S:=Only (h.next+1))).put (b:=h.next+1) (.inr rfl) _) hne ?_ ?_
       ·have:=hZ.2.1;show ¬m=h.next+1;omega
       ·have:=hZ.2.1;show ¬eb=h.next+1;omega
      ·rw [hnl] at ci
       simp [withB,hfi,ci]
     ·simp -dsimp only [go_sem,g1,load_own hB.own,hM.miss ci,hs0,hr,loads_own hZ0]
      rw [hnl] at ci
      exact ⟨hxe _,.inl ⟨rfl,fun _=>⟨em,hF,by simp [withB,ci]⟩⟩⟩
end Go.Ev.G24
end
section
namespace Go.Ev.G24
open Go.RowKit Go.Proofs
variable {r:Ro} {h:Hp}
def testB (q:Option ByteArray) (s:ByteArray):Bool:=match q with
 | none=>true
 | some t=>decide (s.data.toList=t.data.toList)
def runRow (bk:Nat) (Iv:Option Addr) (n c mm:Nat) (far:Nat):List Value:=[.pointer (some ⟨bk,0,none⟩),.slice Iv n c,.map (some mm),.int .i64 (far:Int)]
end Go.Ev.G24
end
section
namespace Go.Ev.G24
open Go.RowKit Go.Proofs
variable {h h1 h2:Hp} {B F B' F':Nat→Prop}
structure RowAt (h:Hp) (b:Nat) (cs:List Value) (f:Nat):Prop where
 lo:h.base≤b
 lt:b<h.next
 row:∃bs g,h.row b=some ⟨cs,31,f,bs,g⟩
 fl:f≠0→f<h.nfam
theorem row_loads {b o n:Nat} {cs:List Value} {f:Nat} (k:RowAt h b cs f):h.loads ⟨b,o,none⟩ n=takeN (cs.drop o) n:=by
 obtain ⟨bs,g,hr⟩:=k.row
 cases n with
 | zero=>simp [Hp.loads,takeN]
 | succ n=>simp only [Hp.loads,blt_false k.lo,hr]
structure Keeps (B F:Nat→Prop) (h h1:Hp):Prop where
 base:h1.base=h.base
 ro:h1.ro=h.ro
 next:h.next≤h1.next
 nfam:h.nfam≤h1.nfam
 rows:∀b cs f,RowAt h b cs f→¬B b→¬F f→RowAt h1 b cs f
theorem Keeps.trans (x:Keeps B F h h1) (y:Keeps B F h1 h2):Keeps B F h h2 :=
 ⟨y.base.trans x.base,y.ro.trans x.ro,Nat.le_trans x.next y.next,Nat.le_trans x.nfam y.nfam,fun b cs f k hb hf=>y.rows b cs f (x.rows b cs f k hb hf) hb hf⟩
theorem Keeps.mono (x:Keeps B F h h1) (hB:∀b,b<h.next→B b→B' b) (hF:∀f,f≠0→f<h.nfam→F f→F' f) (h0:¬F 0):Keeps B' F' h h1 :=
 ⟨x.base,x.ro,x.next,x.nfam,fun b cs f k hb hf=>x.rows b cs f k (fun c=>hb (hB b k.lt c)) (fun c=>hf (hF f (fun e=>h0 (e ▸ c)) (k.fl (fun e=>h0 (e ▸ c))) c))⟩
theorem keepsS {S:Nat→Prop} (x:ExtS S h h1):Keeps S (fun _=>False) h h1:=by
 refine ⟨x.base,x.ro,x.next,x.nfam,fun b cs f k hb _=>⟨by rw [x.base];exact k.lo,Nat.lt_of_lt_of_le k.lt x.next,?_,fun e=>Nat.lt_of_lt_of_le (k.fl e) x.nfam⟩⟩
 obtain ⟨bs,g,hr⟩:=k.row
 refine ⟨bs,g,?_⟩
 unfold Hp.row at hr ⊢
 rw [x.objs b k.lt hb]
 cases hg:h.objs.get b with
 | none=>rw [hg] at hr;cases hr
 | some ob =>
   rw [hg] at hr
   cases ob with
   | cells r =>
     simp only at hr ⊢
     cases hf:r.fam with
     | zero=>rw [hf] at hr;exact hr
     | succ q =>
       rw [hf] at hr
       simp only at hr ⊢
       have hrf:r=⟨cs,31,f,bs,g⟩:=by
        split at hr
        ·split at hr
         ·injection hr
         ·cases hr
        ·cases hr
       have hfq:f=q+1:=by rw [←hf,hrf]
       rw [x.fams (q+1) (by rw [←hfq];exact k.fl (by omega))]
       exact hr
   | map es k=>cases hr
   | sIter s p=>cases hr
   | mIter a b c d=>cases hr
theorem keepsE (x:Ext h h1):Keeps (fun _=>False) (fun _=>False) h h1:=keepsS (x.toS (S:=fun _=>False))
inductive TreeAt (h:Hp) (B F:Nat→Prop):Part→List Value→Prop
 | mk (d t:ByteArray) (l:List Part) (Av:Option Addr) (c b o f:Nat) (row:List Value) (css:Nat→List Value) (hc:l.length≤c) (hs:spotless Av=true)
  (hA:l≠[]→Av=some ⟨b,o,none⟩∧RowAt h b row f∧¬B b∧¬F f) (hat:∀(i:Nat) (p:Part),l[i]? = some p→takeN (row.drop (o+i*3)) 3=some (css i)) (hk:∀(i:Nat) (p:Part),l[i]? = some p→TreeAt h B F p (css i)) :
  TreeAt h B F ⟨d,t,l⟩ [.string d,.string t,.slice Av l.length c]
def KidsAt (h:Hp) (B F:Nat→Prop) (l:List Part) (v:Value):Prop:=∃(Av:Option Addr) (c b o f:Nat) (row:List Value) (css:Nat→List Value),v=.slice Av l.length c∧l.length≤c∧spotless Av=true ∧
 (l≠[]→Av=some ⟨b,o,none⟩∧RowAt h b row f∧¬B b∧¬F f)∧(∀(i:Nat) (p:Part),l[i]? = some p→takeN (row.drop (o+i*3)) 3=some (css i))∧∀(i:Nat) (p:Part),l[i]? = some p→TreeAt h B F p (css i)
theorem TreeAt.kids {p:Part} {cs:List Value} (k:TreeAt h B F p cs):∃v,cs=[.string p.d,.string p.t,v]∧KidsAt h B F p.l v:=by
 cases k with
 | mk d t l Av c b o f row css hc hs hA hat hk=>exact ⟨_,rfl,Av,c,b,o,f,row,css,rfl,hc,hs,hA,hat,hk⟩
theorem KidsAt.tree {d t:ByteArray} {l:List Part} {v:Value} (k:KidsAt h B F l v):TreeAt h B F ⟨d,t,l⟩ [.string d,.string t,v]:=by
 obtain ⟨Av,c,b,o,f,row,css,rfl,hc,hs,hA,hat,hk⟩:=k
 exact .mk d t l Av c b o f row css hc hs hA hat hk
theorem TreeAt.keep (x:Keeps B F h h1) {p:Part} {cs:List Value} (k:TreeAt h B F p cs):TreeAt h1 B F p cs:=by
 induction k with
 | mk d t l Av c b o f row css hc hs hA hat hk ih =>
   exact .mk d t l Av c b o f row css hc hs (fun e=>let ⟨a1,a2,a3,a4⟩:=hA e;⟨a1,x.rows _ _ _ a2 a3 a4,a3,a4⟩) hat ih
theorem KidsAt.keep (x:Keeps B F h h1) {l:List Part} {v:Value} (k:KidsAt h B F l v):KidsAt h1 B F l v:=by
 obtain ⟨Av,c,b,o,f,row,css,rfl,hc,hs,hA,hat,hk⟩:=k
 exact ⟨Av,c,b,o,f,row,css,rfl,hc,hs,fun e=>let ⟨a1,a2,a3,a4⟩:=hA e;⟨a1,x.rows _ _ _ a2 a3 a4,a3,a4⟩,hat,fun i p e=>(hk i p e).keep x⟩
theorem TreeAt.more (hB:∀b,b<h.next→B' b→B b) (hF:∀f,F' f→F f∨(f≠0∧h.nfam≤f)) {p:Part} {cs:List Value} (k:TreeAt h B F p cs):TreeAt h B' F' p cs:=by
 induction k with
 | mk d t l Av c b o f row css hc hs hA hat hk ih =>
   refine .mk d t l Av c b o f row css hc hs (fun e => ?_) hat ih
   obtain ⟨a1,a2,a3,a4⟩:=hA e
   refine ⟨a1,a2,fun c=>a3 (hB _ a2.lt c),fun c => ?_⟩
   rcases hF _ c with q|⟨q1,q2⟩
   ·exact a4 q
   ·have:=a2.fl q1;omega
theorem KidsAt.more (hB:∀b,b<h.next→B' b→B b) (hF:∀f,F' f→F f∨(f≠0∧h.nfam≤f)) {l:List Part} {v:Value} (k:KidsAt h B F l v):KidsAt h B' F' l v:=by
 obtain ⟨Av,c,b,o,f,row,css,rfl,hc,hs,hA,hat,hk⟩:=k
 refine ⟨Av,c,b,o,f,row,css,rfl,hc,hs,fun e => ?_,hat,fun i p e=>(hk i p e).more hB hF⟩
 obtain ⟨a1,a2,a3,a4⟩:=hA e
 refine ⟨a1,a2,fun c=>a3 (hB _ a2.lt c),fun c => ?_⟩
 rcases hF _ c with q|⟨q1,q2⟩
 ·exact a4 q
 ·have:=a2.fl q1;omega
theorem KidsAt.nil:KidsAt h B F [] (.slice none 0 0):=⟨none,0,0,0,0,[],fun _=>[],rfl,Nat.le_refl _,rfl,fun e=>absurd rfl e,fun i p e=>by simp at e,fun i p e=>by simp at e⟩
theorem append_of {P:Program} {t e:TypeId} {s:Nat} {z:Value} (hu:P.underlying t=some (.slice e)) (hs:sizeOf' P e=some s) (hz:zero' P e=some z) (hzl:Nat.beq z.cells.toList.length s=true∧0<s)
  (hby:(match P.info? e with|some i=>Nat.ble i.bytes 100000&&Nat.blt 0 i.bytes|none=>false)=true) (h:Hp) {base:Option Addr} {len cap n:Nat} {x:Value} {r:List Value} {xt:List TypeId} {new:List Value}
  (hn:lenOf' x=some n) (hf:first' h s n x=some new) (hl:len+n≤1000000) (hc:len≤cap) (h1:new.all oneCell=true) (h2:new.length=n*s) (hni:noInt P xt=true) :
  append' P h (t::xt) (.slice base len cap::x::r)=apd h e s base len cap n new:=by
 cases hi:P.info? e with
 | none=>rw [hi] at hby;cases hby
 | some i =>
   rw [hi] at hby
   simp only [Bool.and_eq_true] at hby
   have hsz:i.size=s:=by unfold sizeOf' at hs;rw [hi] at hs;injection hs
   have b1:Nat.blt 0 s=true:=by simpa using hzl.2
   have b2:Nat.ble (len+n) 1000000=true:=by simpa using hl
   have b3:Nat.ble len cap=true:=by simpa using hc
   have b4:Nat.beq new.length (n*s)=true:=by rw [h2];simp
   simp only [append',hu,hni,hi,hz,hsz,hzl.1,b1,hby.1,hby.2,hn,hf,b2,b3,h1,b4]
theorem ble_false {a b:Nat} (h:b<a):Nat.ble a b=false:=by
 cases e:Nat.ble a b with
 | false=>rfl
 | true=>have:=Nat.le_of_ble_eq_true e;omega
end Go.Ev.G24
end
section
namespace Go.Ev.G24
open Go.RowKit Go.Proofs
variable {h h1 h2:Hp} {B F B' F':Nat→Prop}
theorem takeN_ok:∀(n:Nat) (l:List Value),n≤l.length→takeN l n=some (l.take n)
 | 0,l,_=>by cases l<;>rfl
 | n+1,[],h=>by simp at h
 | n+1,v::l,h=>by simp only [takeN,takeN_ok n l (by simpa using h),List.take_succ_cons]
theorem takeN_some:∀(n:Nat) (l x:List Value),takeN l n=some x→n≤l.length∧x=l.take n
 | 0,l,x,h=>by
   have:x=[]:=by cases l<;>simp [takeN] at h<;>first|exact h.symm|exact h
   subst this
   exact ⟨Nat.zero_le _,rfl⟩
 | n+1,[],x,h=>by simp [takeN] at h
 | n+1,v::l,x,h=>by
   simp only [takeN] at h
   split at h
   ·rename_i y hy
    injection h with h
    subst h
    obtain ⟨h1,h2⟩:=takeN_some n l y hy
    exact ⟨by simpa using h1,by rw [h2,List.take_succ_cons]⟩
   ·cases h
theorem kids_cells {row:List Value} {o n:Nat} {css:Nat→List Value} (h:∀i,i<n→takeN (row.drop (o+i*3)) 3=some (css i)) (hn:0<n) :
  ∃new,takeN (row.drop o) (n*3)=some new∧new.length=n*3∧∀i,i<n→takeN (new.drop (i*3)) 3=some (css i):=by
 obtain ⟨q1,_⟩:=takeN_some _ _ _ (h (n - 1) (by omega))
 rw [List.length_drop] at q1
 have hlen:n*3≤(row.drop o).length:=by rw [List.length_drop];omega
 refine ⟨_,takeN_ok _ _ hlen,by rw [List.length_take];omega,fun i hi => ?_⟩
 obtain ⟨p1,p2⟩:=takeN_some _ _ _ (h i hi)
 rw [takeN_ok _ _ (by rw [List.length_drop,List.length_take];omega),p2]
 congr 1
 rw [List.drop_take,List.take_take,List.drop_drop,Nat.min_eq_left (by omega)]
theorem cells_plain {new:List Value} {n:Nat} {css:Nat→List Value} (hl:new.length=n*3) (h:∀i,i<n→takeN (new.drop (i*3)) 3=some (css i)) (hc:∀i,i<n→(css i).all oneCell=true):new.all oneCell=true:=by
 rw [List.all_eq_true]
 intro x hx
 obtain ⟨q,hq,rfl⟩:=List.mem_iff_getElem.1 hx
 have hi:q / 3<n:=by omega
 obtain ⟨_,p2⟩:=takeN_some _ _ _ (h _ hi)
 have hm:new[q]∈css (q / 3):=by
  rw [p2,List.mem_iff_getElem?]
  refine ⟨q % 3,?_⟩
  rw [List.getElem?_take_of_lt (by omega),List.getElem?_drop,show q / 3*3+q % 3=q by omega,List.getElem?_eq_getElem hq]
 exact List.all_eq_true.1 (hc _ hi) _ hm
theorem TreeAt.plain {p:Part} {cs:List Value} (k:TreeAt h B F p cs):cs.all oneCell=true:=by
 cases k with
 | mk d t l Av c b o f row css hc hs hA hat hk=>rfl
theorem get_lt {α:Type} {l:List α} {i:Nat} (hi:i<l.length):l[i]? = some l[i]:=List.getElem?_eq_getElem hi
def Mine (h:Hp) (n0 f0:Nat) (B F:Nat→Prop) (l:List Part) (v:Value):Prop:=(l=[]∧v=.slice none 0 0) ∨
 ∃(b f:Nat) (row:List Value) (css:Nat→List Value),l≠[]∧v=.slice (some ⟨b,0,none⟩) l.length l.length∧RowAt h b row f∧row.length=l.length*3∧n0≤b∧(f≠0→f0≤f) ∧
  (∀(i:Nat) (p:Part),l[i]? = some p→takeN (row.drop (i*3)) 3=some (css i))∧∀(i:Nat) (p:Part),l[i]? = some p→TreeAt h (fun x=>B x∨x=b) (fun q=>F q∨(q=f∧f≠0)) p (css i)
def ownB (v:Value):Nat→Prop:=fun x=>match v with
 | .slice (some a) _ _=>x=a.block
 | _=>False
def ownF (h:Hp) (v:Value):Nat→Prop:=fun q=>match v with
 | .slice (some a) _ _=>q≠0∧∃r,h.row a.block=some r∧r.fam=q
 | _=>False
theorem KidsAt.cells {l:List Part} {v:Value} (k:KidsAt h B F l v) (hl:l≠[]):∃(new:List Value) (css:Nat→List Value),lenOf' v=some l.length∧first' h 3 l.length v=some new∧new.length=l.length*3∧new.all oneCell=true∧(∀i:Nat,i<l.length→takeN (new.drop (i*3)) 3=some (css i))∧∀(i:Nat) (p:Part),l[i]? = some p→TreeAt h B F p (css i):=by
 obtain ⟨Av,c,b,o,f,row,css,rfl,hc,hs,hA,hat,hk⟩:=k
 obtain ⟨rfl,hr,h3,h4⟩:=hA hl
 have hpos:0<l.length:=List.length_pos_iff.2 hl
 obtain ⟨new,q1,q2,q3⟩:=kids_cells (css:=css) (fun i hi=>hat i _ (get_lt hi)) hpos
 refine ⟨new,css,rfl,?_,q2,cells_plain q2 q3 (fun i hi=>(hk i _ (get_lt hi)).plain),q3,hk⟩
 simp only [first',row_loads hr,q1]
theorem KidsAt.none {v:Value} (k:KidsAt h B F [] v):lenOf' v=some 0∧first' h 3 0 v=some []:=by
 obtain ⟨Av,c,b,o,f,row,css,rfl,hc,hs,hA,hat,hk⟩:=k
 refine ⟨rfl,?_⟩
 cases Av with
 | none=>rfl
 | some a=>simp [first',Hp.loads]
theorem row_fam {b f:Nat} {cs:List Value} (k:RowAt h b cs f) {r:Row} (hr:h.row b=some r):r.fam=f:=by
 obtain ⟨bs,g,h2⟩:=k.row
 rw [hr] at h2
 injection h2 with h2
 rw [h2]
theorem ownF_eq {b f n c:Nat} {cs:List Value} (k:RowAt h b cs f) (q:Nat):ownF h (.slice (some ⟨b,0,none⟩) n c) q↔(q=f∧f≠0):=by
 constructor
 ·rintro ⟨h1,r,h2,h3⟩
  have:=row_fam k h2
  exact ⟨by rw [←h3,this],by rw [←this,h3];exact h1⟩
 ·rintro ⟨rfl,h1⟩
  obtain ⟨bs,g,h2⟩:=k.row
  exact ⟨h1,_,h2,rfl⟩
theorem grow_extS {S:Nat→Prop} {h0 h':Hp} {b f:Nat} (x:ExtS S h0 h) (hb:h0.next≤b) (hf:f≠0→h0.nfam≤f) (e1:h'.base=h.base) (e2:h'.ro=h.ro) (e3:h'.next=h.next+1) (e4:h.nfam≤h'.nfam)
  (e5:∀x,x<h.next→x≠b→h'.objs.get x=h.objs.get x) (e6:∀q,q<h.nfam→¬(q=f∧f≠0)→h'.fams.get q=h.fams.get q):ExtS S h0 h' :=
 ⟨e1.trans x.base,e2.trans x.ro,by rw [e3];exact Nat.le_succ_of_le x.next,fun d hd hs=>by
  rw [e5 d (Nat.lt_of_lt_of_le hd x.next) (by omega)]
  exact x.objs d hd hs,Nat.le_trans x.nfam e4,fun q hq=>by
  rw [e6 q (Nat.lt_of_lt_of_le hq x.nfam) (fun ⟨a,b⟩=>by have:=hf b;omega)]
  exact x.fams q hq⟩
end Go.Ev.G24
end
section
namespace Go.Ev.G24
open Go.RowKit Go.Proofs
variable {h h1 h2:Hp} {B F B' F':Nat→Prop}
inductive Few:Part→Prop
 | mk (d t:ByteArray) (l:List Part) (hl:l.length≤100000) (hk:∀(i:Nat) (p:Part),l[i]? = some p→Few p):Few ⟨d,t,l⟩
theorem Mine.keep {n0 f0:Nat} {l:List Part} {v:Value} (x:Ext h h1) (M:Mine h n0 f0 B F l v):Mine h1 n0 f0 B F l v:=by
 rcases M with ⟨rfl,rfl⟩|⟨b,f,row,css,hl,rfl,hr,hrl,hb0,hf,hat,hk⟩
 ·exact .inl ⟨rfl,rfl⟩
 ·exact .inr ⟨b,f,row,css,hl,rfl,(keepsE x).rows _ _ _ hr (fun c=>c) (fun c=>c),hrl,hb0,hf,hat,fun i p hp=>(hk i p hp).keep ((keepsE x).mono (fun _ _ c=>c.elim) (fun _ _ _ c=>c.elim) (fun c=>c))⟩
theorem Mine.lt {n0 f0:Nat} {l:List Part} {v:Value} (M:Mine h n0 f0 B F l v) {x:Nat} (hx:ownB v x):x<h.next:=by
 rcases M with ⟨rfl,rfl⟩|⟨b,f,row,css,hl,rfl,hr,hrl,hb0,hf,hat,hk⟩
 ·exact hx.elim
 ·have:x=b:=hx
  rw [this];exact hr.lt
theorem Mine.ownF_same {n0 f0:Nat} {l:List Part} {v:Value} (M:Mine h n0 f0 B F l v) (x:Ext h h1) {q:Nat} (hq:ownF h1 v q):ownF h v q:=by
 rcases M with ⟨rfl,rfl⟩|⟨b,f,row,css,hl,rfl,hr,hrl,hb0,hf,hat,hk⟩
 ·exact hq.elim
 ·exact (ownF_eq hr q).2 ((ownF_eq ((keepsE x).rows _ _ _ hr (fun c=>c) (fun c=>c)) q).1 hq)
end Go.Ev.G24
end
section
namespace Go.Ev.G24
open Go.RowKit Go.Proofs
variable {r:Ro}
structure RoStrs (r:Ro) (items:List ByteArray) (Iv:Option Addr) (c b o:Nat):Prop where
 hc:items.length≤c
 hb:items.length≤9223372036854775807
 hA:items≠[]→Iv=some ⟨b,o,none⟩
 hat:∀(i:Nat) (s:ByteArray),items[i]? = some s→roAt r b (o+i) [.string s]
 hs:spotless Iv=true
end Go.Ev.G24
end
section
namespace Go.Ev.G24
open Go.RowKit Go.Proofs
variable {r:Ro}
mutual
def partsB (most:Nat):Nat→Part→Nat
 | deep,⟨d,t,l⟩=>if deep=0 then most+1 else if 200<t.data.toList.length then most+1 else if 40<d.data.toList.length then most+1 else partsL most (deep - 1) l 1
def partsL (most:Nat):Nat→List Part→Nat→Nat
 | _,[],n=>n
 | deep,x::l,n=>if n≤most then partsL most deep l (n+partsB most deep x) else n
end
mutual
theorem partsB_le (most:Nat):∀(p:Part) (deep:Nat),partsB most deep p≤(deep+1)*(most+1)
 | ⟨d,t,l⟩,deep=>by
   have h0:most+1≤(deep+1)*(most+1):=Nat.le_mul_of_pos_left _ (Nat.succ_pos _)
   unfold partsB
   split
   ·exact h0
   ·rename_i hd
    split
    ·exact h0
    ·split
     ·exact h0
     ·have:=partsL_le most l (deep - 1) 1 (most+(deep - 1+1)*(most+1)) (Nat.le_refl _) (by
       have:0<(deep - 1+1)*(most+1):=Nat.mul_pos (Nat.succ_pos _) (Nat.succ_pos _)
       omega)
      refine Nat.le_trans this ?_
      rw [show deep - 1+1=deep by omega,Nat.add_mul]
      omega
theorem partsL_le (most:Nat):∀(l:List Part) (deep n B:Nat),most+(deep+1)*(most+1)≤B→n≤B→partsL most deep l n≤B
 | [],deep,n,B,_,hn=>by unfold partsL;exact hn
 | x::l,deep,n,B,hB,hn=>by
   unfold partsL
   split
   ·have:=partsB_le most x deep
    exact partsL_le most l deep _ B hB (by omega)
   ·exact hn
end
def PartsC (r:Ro) (most:Nat) (p:Part):Prop:=∀(deep:Nat) (h:Hp) (cs:List Value),deep≤1000→h.rom=r→h.base≤h.next→RoPart r p cs→∃v h1,Snd Try.prog 36 [.agg cs.toArray,.int .i64 (deep:Int),.int .i64 (most:Int)] h v h1∧v=.int .i64 (partsB most deep p:Int)∧Ext h h1
set_option maxHeartbeats 4000000 in
set_option maxRecDepth 10000 in
theorem parts_c {most:Nat} (hmost:most≤100000):∀(n:Nat) (p:Part),SizeOf.sizeOf p<n→PartsC r most p:=by
 intro n
 induction n with
 | zero=>exact fun p hp=>absurd hp (Nat.not_lt_zero _)
 | succ n ihn =>
 rintro ⟨d,t,l⟩ hn deep h cs hdeep hrom hb hp
 have ih:∀(i:Nat) (p:Part),l[i]? = some p→PartsC r most p:=fun i p hp=>ihn p (by
  have:=List.sizeOf_lt_of_mem (List.mem_of_getElem? hp)
  simp only [Part.mk.sizeOf_spec] at hn
  omega)
 cases hp with
 | mk _ _ _ Av c b o css hc hlb hA hat hk hs =>
 refine snd_go wf Try.func36 rfl rfl (n:=49) rfl (by kernel_rfl) rfl ?_
 intro a hn hg
 have hr:Try.f36.results.toList=[.tmp 6]:=rfl
 have g0:=hg 0
 have g1:=hg 1
 have g2:=hg 2
 clear hg
 simp only [List.getElem?_cons_zero,List.getElem?_cons_succ] at g0 g1 g2
 have hP:=own_new hb 52 [.string d,.string t,.slice Av l.length c]
 have hx0:=Ext.new h (CObj.cells ⟨[.string d,.string t,.slice Av l.length c],52,0,0,false⟩)
 have hb1:=Nat.le_succ_of_le (m:=h.next) hb
 have hw:IntKind.i64.wrap ((most:Int)+1)=((most+1:Nat):Int):=wrap64_nat (n:=most+1) (by omega)
 by_cases cd:deep=0
 ·have k1:decide ((deep:Int)<1)=true:=decide_eq_true (by omega)
  simp -dsimp only [go_sem,undef',g0,g1,g2,k1,hw,hr]
  exact ⟨by unfold partsB;rw [if_pos cd],hx0⟩
 have k1:decide ((deep:Int)<1)=false:=decide_eq_false (by omega)
 by_cases ct:200<t.data.toList.length
 ·have k2:decide ((200:Int)<(t.data.toList.length:Int))=true:=decide_eq_true (by omega)
  simp -dsimp only [go_sem,undef',g0,g1,g2,k1,k2,load_own hP,hw,hr]
  exact ⟨by unfold partsB;rw [if_neg cd,if_pos ct],hx0⟩
 have k2:decide ((200:Int)<(t.data.toList.length:Int))=false:=decide_eq_false (by omega)
 by_cases cdo:40<d.data.toList.length
 ·have k3:decide ((40:Int)<(d.data.toList.length:Int))=true:=decide_eq_true (by omega)
  simp -dsimp only [go_sem,undef',g0,g1,g2,k1,k2,k3,load_own hP,hw,hr]
  exact ⟨by unfold partsB;rw [if_neg cd,if_neg ct,if_pos cdo],hx0⟩
 have k3:decide ((40:Int)<(d.data.toList.length:Int))=false:=decide_eq_false (by omega)
 have e:partsB most deep ⟨d,t,l⟩=partsL most (deep - 1) l 1:=by unfold partsB;rw [if_neg cd,if_neg ct,if_neg cdo]
 simp -dsimp only [go_sem,undef',g0,g1,g2,k1,k2,k3,load_own hP]
 refine loop_go (n:=49) (by kernel_rfl) (fun m' a' h'=>∃i k:Nat,i≤l.length∧m'=l.length - i∧k≤1002*(most+1)∧Ext (h.newH (CObj.cells ⟨[.string d,.string t,.slice Av l.length c],52,0,0,false⟩)) h'∧partsL most (deep - 1) (l.drop i) k=partsL most (deep - 1) l 1 ∧
  a'.get 1=.int .i64 deep∧a'.get 2=.int .i64 most∧a'.get 3=.pointer (some ⟨h.next,0,none⟩)∧a'.get 7=.int .i64 k∧a'.get 8=.int .i64 i) ?_ l.length _ _ (by simp -dsimp only [go_sem,hn]) ⟨0,1,Nat.zero_le _,rfl,by omega,Ext.refl _,rfl,by simp -dsimp only [go_sem,g1],by simp -dsimp only [go_sem,g2],by simp -dsimp only [go_sem],by simp -dsimp only [go_sem];rfl,by simp -dsimp only [go_sem];rfl⟩
 rintro m' a' h' hn' ⟨i,k,hi,rfl,hkb,hx,hst,e1,e2,e3,e7,e8⟩
 have hrom':h'.rom=r:=hx.rom.trans hrom
 have hb':h'.base≤h'.next:=by rw [hx.base];exact Nat.le_trans hb1 hx.next
 have hP':=own_ext hx hP
 by_cases hlt:i<l.length
 ·have hpi:l[i]? = some l[i]:=List.getElem?_eq_getElem hlt
  have hi1:decide ((i:Int)<(l.length:Int))=true:=decide_eq_true (Int.ofNat_lt.2 hlt)
  rw [List.drop_eq_getElem_cons hlt,partsL] at hst
  by_cases ck:k≤most
  ·have k4:decide ((k:Int)≤(most:Int))=true:=decide_eq_true (by omega)
   rw [if_pos ck] at hst
   obtain ⟨Av1,c1',hcs⟩:=(hk i _ hpi).shape
   have hat':=hat i _ hpi
   have hkid:=hk i _ hpi
   rw [hcs] at hat' hkid
   have hAv:=hA (ne_nil hlt)
   subst hAv
   have hwd:IntKind.i64.wrap ((deep:Int) - 1)=((deep - 1:Nat):Int):=by rw [IntKind.wrap_i64];omega
   simp -dsimp only [go_sem,e1,e2,e3,e7,e8,hi1,k4,load_own hP',ia50 hlt,loads_ro (n:=3) hrom' hat' rfl,hwd]
   obtain ⟨_,h2,hs2,rfl,hx2⟩:=ih i _ hpi (deep - 1) h' _ (by omega) hrom' hb' hkid
   refine ⟨_,h2,hs2,?_⟩
   have hle:=partsB_le most l[i] (deep - 1)
   have hle2:(deep - 1+1)*(most+1)≤1001*(most+1):=Nat.mul_le_mul_right _ (by omega)
   have hwk:IntKind.i64.wrap ((k:Int)+(partsB most (deep - 1) l[i]:Int))=((k+partsB most (deep - 1) l[i]:Nat):Int):=by rw [IntKind.wrap_i64];omega
   simp -dsimp only [go_sem,e1,e2,e3,e7,e8,hwk,wrap64_succ hlt hlb]
   exact ⟨l.length - (i+1),by omega,i+1,_,hlt,rfl,by omega,hx.trans hx2,hst,rfl,rfl⟩
  ·have k4:decide ((k:Int)≤(most:Int))=false:=decide_eq_false (by omega)
   rw [if_neg ck] at hst
   simp -dsimp only [go_sem,e1,e2,e3,e7,e8,hi1,k4,load_own hP',hr]
   exact ⟨by rw [e,←hst],hx0.trans hx⟩
 ·have hi0:decide ((i:Int)<(l.length:Int))=false:=decide_eq_false (by omega)
  rw [List.drop_eq_nil_of_le (by omega),partsL] at hst
  simp -dsimp only [go_sem,undef',e1,e2,e3,e7,e8,hi0,load_own hP',hr]
  exact ⟨by rw [e,←hst],hx0.trans hx⟩
end Go.Ev.G24
end
section
namespace Go.Ev.G24
open Go.RowKit Go.Proofs
variable {r:Ro}
def smallL (most:Nat):List Rule→Nat→Option Nat
 | [],n=>some n
 | x::l,n=>if n≤most then (if 200<x.name.data.toList.length then none else smallL most l (n+partsB most 40 x.body)) else some n
def smallB (most:Nat) (l:List Rule):Bool:=match smallL most l 0 with
 | none=>false
 | some n=>decide (n≤most)&&decide (l.length≤30)
theorem roAt_tail {b o:Nat} {v:Value} {cs:List Value} (h:roAt r b o (v::cs)):roAt r b (o+1) cs :=
 ⟨h.1,fun j u hj=>by rw [show o+1+j=o+(j+1) by omega];exact h.2 (j+1) u (by simpa using hj)⟩
set_option maxHeartbeats 4000000 in
set_option maxRecDepth 10000 in
theorem small_c {l:List Rule} {Av:Option Addr} {c b o:Nat} {css:Nat→List Value} (hlb:l.length≤9223372036854775807) (hA:l≠[]→Av=some ⟨b,o,none⟩) (hat:∀(i:Nat) (x:Rule),l[i]? = some x→roAt r b (o+i*4) (.string x.name::css i)) (hk:∀(i:Nat) (x:Rule),l[i]? = some x→RoPart r x.body (css i))
  {most:Nat} (hmost:most≤100000) (h:Hp) (hrom:h.rom=r) (hb:h.base≤h.next) :
  ∃v h1,Snd Try.prog 10 [.agg #[.slice Av l.length c],.int .i64 (most:Int)] h v h1∧v=.bool (smallB most l)∧Ext h h1:=by
 refine snd_go wf Try.func10 rfl rfl (n:=46) rfl (by kernel_rfl) rfl ?_
 intro a hn hg
 have hr:Try.f10.results.toList=[.tmp 4]:=rfl
 have g0:=hg 0
 have g1:=hg 1
 clear hg
 simp only [List.getElem?_cons_zero,List.getElem?_cons_succ] at g0 g1
 have hP:=own_new hb 24 [.slice Av l.length c]
 have hx0:=Ext.new h (CObj.cells ⟨[.slice Av l.length c],24,0,0,false⟩)
 have hb1:=Nat.le_succ_of_le (m:=h.next) hb
 simp -dsimp only [go_sem,g0,g1]
 refine loop_go (n:=46) (by kernel_rfl) (fun m' a' h'=>∃i k:Nat,i≤l.length∧m'=l.length - i∧k≤42*(most+1)∧Ext (h.newH (CObj.cells ⟨[.slice Av l.length c],24,0,0,false⟩)) h'∧smallL most (l.drop i) k=smallL most l 0 ∧
  a'.get 1=.int .i64 most∧a'.get 2=.pointer (some ⟨h.next,0,none⟩)∧a'.get 5=.int .i64 k∧a'.get 6=.int .i64 i) ?_ l.length _ _ (by simp -dsimp only [go_sem,hn]) ⟨0,0,Nat.zero_le _,rfl,Nat.zero_le _,Ext.refl _,rfl,by simp -dsimp only [go_sem,g1],by simp -dsimp only [go_sem],by simp -dsimp only [go_sem];rfl,by simp -dsimp only [go_sem];rfl⟩
 rintro m' a' h' hn' ⟨i,k,hi,rfl,hkb,hx,hst,e1,e2,e5,e6⟩
 have hrom':h'.rom=r:=hx.rom.trans hrom
 have hb':h'.base≤h'.next:=by rw [hx.base];exact Nat.le_trans hb1 hx.next
 have hP':=own_ext hx hP
 have k30:decide ((l.length:Int)≤30)=decide (l.length≤30):=by rw [decide_eq_decide];omega
 by_cases hlt:i<l.length
 ·have hpi:l[i]? = some l[i]:=List.getElem?_eq_getElem hlt
  have hi1:decide ((i:Int)<(l.length:Int))=true:=decide_eq_true (Int.ofNat_lt.2 hlt)
  rw [List.drop_eq_getElem_cons hlt,smallL] at hst
  by_cases ck:k≤most
  ·have k4:decide ((k:Int)≤(most:Int))=true:=decide_eq_true (by omega)
   rw [if_pos ck] at hst
   obtain ⟨Av1,c1',hcs⟩:=(hk i _ hpi).shape
   have hat':=hat i _ hpi
   have hkid:=hk i _ hpi
   rw [hcs] at hat' hkid
   have hAv:=hA (ne_nil hlt)
   subst hAv
   have hat2:=roAt_tail hat'
   have hld:h'.load ⟨b,o+i*4,none⟩=some (.string l[i].name):=by
    have:=load_ro hrom' hat' (j:=0) (v:=.string l[i].name) rfl
    simpa using this
   by_cases cn:200<l[i].name.data.toList.length
   ·have k5:decide ((200:Int)<(l[i].name.data.toList.length:Int))=true:=decide_eq_true (by omega)
    rw [if_pos cn] at hst
    simp -dsimp only [go_sem,e1,e2,e5,e6,hi1,k4,load_own hP',ia22 hlt,hld,k5,hr]
    exact ⟨by unfold smallB;rw [←hst],hx0.trans hx⟩
   ·have k5:decide ((200:Int)<(l[i].name.data.toList.length:Int))=false:=decide_eq_false (by omega)
    rw [if_neg cn] at hst
    simp -dsimp only [go_sem,e1,e2,e5,e6,hi1,k4,load_own hP',ia22 hlt,hld,k5,loads_ro (n:=3) hrom' hat2 rfl]
    obtain ⟨_,h2,hs2,rfl,hx2⟩:=parts_c hmost _ l[i].body (Nat.lt_succ_self _) 40 h' _ (by omega) hrom' hb' hkid
    refine ⟨_,h2,hs2,?_⟩
    have hle:=partsB_le most l[i].body 40
    have hwk:IntKind.i64.wrap ((k:Int)+(partsB most 40 l[i].body:Int))=((k+partsB most 40 l[i].body:Nat):Int):=by rw [IntKind.wrap_i64];omega
    simp -dsimp only [go_sem,e1,e2,e5,e6,hwk,wrap64_succ hlt hlb]
    exact ⟨l.length - (i+1),by omega,i+1,_,hlt,rfl,by omega,hx.trans hx2,hst,rfl,rfl⟩
  ·have k4:decide ((k:Int)≤(most:Int))=false:=decide_eq_false (by omega)
   rw [if_neg ck] at hst
   simp -dsimp only [go_sem,undef',e1,e2,e5,e6,hi1,k4,load_own hP',hr]
   exact ⟨by unfold smallB;rw [←hst];simp [ck],hx0.trans hx⟩
 ·have hi0:decide ((i:Int)<(l.length:Int))=false:=decide_eq_false (by omega)
  rw [List.drop_eq_nil_of_le (by omega),smallL] at hst
  by_cases ck:k≤most
  ·have k4:decide ((k:Int)≤(most:Int))=true:=decide_eq_true (by omega)
   simp -dsimp only [go_sem,undef',e1,e2,e5,e6,hi0,k4,load_own hP',k30,hr]
   exact ⟨by unfold smallB;rw [←hst];simp [ck],hx0.trans hx⟩
  ·have k4:decide ((k:Int)≤(most:Int))=false:=decide_eq_false (by omega)
   simp -dsimp only [go_sem,undef',e1,e2,e5,e6,hi0,k4,load_own hP',hr]
   exact ⟨by unfold smallB;rw [←hst];simp [ck],hx0.trans hx⟩
end Go.Ev.G24
end
section
namespace Go.Ev.G24
open Go.RowKit Go.Proofs
abbrev No:Nat→Prop:=fun _=>False
end Go.Ev.G24
end
section
namespace Go.Ev.G24
open Go.RowKit Go.Proofs
variable {r:Ro}
def findB (s:ByteArray):List ByteArray→Nat→Int
 | [],_ => -1
 | x::l,i=>if x.data.toList=s.data.toList then (i:Int) else findB s l (i+1)
theorem findB_idx (s:ByteArray):∀(l:List ByteArray) (i:Nat),findB s l i=if idxOf l s<l.length then ((i+idxOf l s:Nat):Int) else -1
 | [],i=>by simp [findB]
 | x::l,i=>by
   unfold findB
   have hc:idxOf (x::l) s=if x.data.toList=s.data.toList then 0 else idxOf l s+1:=by
    unfold idxOf
    rw [List.findIdx_cons]
    by_cases c:x.data.toList=s.data.toList<;>simp [c]
   by_cases c:x.data.toList=s.data.toList
   ·rw [if_pos c,hc,if_pos c];simp
   ·rw [if_neg c,findB_idx s l (i+1),hc,if_neg c,List.length_cons]
    by_cases c2:idxOf l s<l.length
    ·rw [if_pos c2,if_pos (by omega)];congr 1;omega
    ·rw [if_neg c2,if_neg (by omega)]
set_option maxHeartbeats 2000000 in
set_option maxRecDepth 10000 in
theorem find_c {l:List Rule} {Av:Option Addr} {c b o:Nat} {css:Nat→List Value} (R:RoRules r l Av c b o css) (s:ByteArray) (h:Hp) (hrom:h.rom=r) (hb:h.base≤h.next) :
  ∃v h1,Snd Try.prog 39 [.agg #[.slice Av l.length c],.string s] h v h1∧v=.int .i64 (findB s (nms l) 0)∧Ext h h1:=by
 refine snd_go wf Try.func39 rfl rfl (n:=22) rfl (by kernel_rfl) rfl ?_
 intro a hn hg
 have hr:Try.f39.results.toList=[.tmp 4]:=rfl
 have g0:=hg 0
 have g1:=hg 1
 clear hg
 simp only [List.getElem?_cons_zero,List.getElem?_cons_succ] at g0 g1
 have hP:=own_new hb 24 [.slice Av l.length c]
 have hx0:=Ext.new h (CObj.cells ⟨[.slice Av l.length c],24,0,0,false⟩)
 have hnl:(nms l).length=l.length:=by simp [nms]
 simp -dsimp only [go_sem,g0]
 generalize h.newH (CObj.cells ⟨[.slice Av l.length c],24,0,0,false⟩)=h2 at hP hx0 ⊢
 refine loop_go (n:=22) (by kernel_rfl) (fun m' a' h'=>∃i:Nat,i≤l.length∧m'=l.length - i∧h'=h2∧findB s ((nms l).drop i) i=findB s (nms l) 0 ∧
  a'.get 1=.string s∧a'.get 2=.pointer (some ⟨h.next,0,none⟩)∧a'.get 5=.int .i64 i) ?_ l.length _ _ (by simp -dsimp only [go_sem,hn]) ⟨0,Nat.zero_le _,rfl,rfl,rfl,by simp -dsimp only [go_sem,g1],by simp -dsimp only [go_sem],by simp -dsimp only [go_sem];rfl⟩
 rintro m' a' h' hn' ⟨i,hi,rfl,hh,hst,e1,e2,e5⟩
 rw [hh]
 by_cases hlt:i<l.length
 ·have hpi:l[i]? = some l[i]:=List.getElem?_eq_getElem hlt
  have hi1:decide ((i:Int)<(l.length:Int))=true:=decide_eq_true (Int.ofNat_lt.2 hlt)
  have hat':=R.hat i _ hpi
  have hAv:=R.hA (ne_nil hlt)
  subst hAv
  have hld:h2.load ⟨b,o+i*4,none⟩=some (.string l[i].name):=by
   have:=load_ro (hx0.rom.trans hrom) hat' (j:=0) (v:=.string l[i].name) rfl
   simpa using this
  have hdr:(nms l).drop i=l[i].name::(nms l).drop (i+1):=by
   rw [List.drop_eq_getElem_cons (by omega)];simp [nms]
  rw [hdr,findB] at hst
  by_cases c2:l[i].name.data.toList=s.data.toList
  ·rw [if_pos c2] at hst
   simp -dsimp only [go_sem,e1,e2,e5,hi1,ia22 hlt,load_own hP,hld,decide_eq_true c2,hr]
   exact ⟨by rw [←hst],hx0⟩
  ·rw [if_neg c2] at hst
   simp -dsimp only [go_sem,e1,e2,e5,hi1,ia22 hlt,load_own hP,hld,decide_eq_false c2,wrap64_succ hlt (Nat.le_trans R.hb (by decide))]
   exact ⟨l.length - (i+1),by omega,i+1,hlt,rfl,hst,rfl⟩
 ·have hi0:decide ((i:Int)<(l.length:Int))=false:=decide_eq_false (by omega)
  rw [List.drop_eq_nil_of_le (by omega),findB] at hst
  simp -dsimp only [go_sem,e1,e2,e5,hi0,load_own hP,hr]
  exact ⟨by rw [←hst],hx0⟩
end Go.Ev.G24
end
section
namespace Go.Ev.G24
open Go.RowKit Go.Proofs
variable {r:Ro}
theorem int_gt0 (n:Nat):decide (0<(n:Int))=decide (1≤n):=by rw [decide_eq_decide];omega
theorem find_ge (s:ByteArray) (l:List ByteArray):decide (0≤findB s l 0)=decide (idxOf l s<l.length):=by
 rw [findB_idx,decide_eq_decide]
 split<;>omega
def RefRightC (r:Ro) (G:List Rule) (Gv:Option Addr) (gc:Nat) (p:Part):Prop:=∀(h:Hp) (cs:List Value),h.rom=r→h.base≤h.next→RoPart r p cs→fits p →
 ∃v h1,Snd Try.prog 69 [.agg #[.slice Gv G.length gc],.agg cs.toArray] h v h1∧v=.bool (rightP (nms G) p)∧Ext h h1
set_option maxHeartbeats 4000000 in
set_option maxRecDepth 10000 in
theorem ref_right_c {G:List Rule} {Gv:Option Addr} {gc gb go:Nat} {gcss:Nat→List Value} (R:RoRules r G Gv gc gb go gcss):∀(n:Nat) (p:Part),SizeOf.sizeOf p<n→RefRightC r G Gv gc p:=by
 intro n
 induction n with
 | zero=>exact fun p hp=>absurd hp (Nat.not_lt_zero _)
 | succ n ihn =>
 rintro ⟨d,t,l⟩ hn h cs hrom hb hp hft
 have ih:∀(i:Nat) (p:Part),l[i]? = some p→RefRightC r G Gv gc p:=fun i p hp=>ihn p (by
  have:=List.sizeOf_lt_of_mem (List.mem_of_getElem? hp)
  simp only [Part.mk.sizeOf_spec] at hn
  omega)
 have hnk:∀(i:Nat) (p:Part),l[i]? = some p→fits p:=fitsL_get hft.2
 cases hp with
 | mk _ _ _ Av c b o css hc hlb hA hat hk hs =>
 refine snd_go wf Try.func69 rfl rfl (n:=84) rfl (by kernel_rfl) rfl ?_
 intro a hn hg
 have hr:Try.f69.results.toList=[.tmp 4]:=rfl
 have g0:=hg 0
 have g1:=hg 1
 clear hg
 simp only [List.getElem?_cons_zero,List.getElem?_cons_succ] at g0 g1
 have hG:=own_new hb 24 [.slice Gv G.length gc]
 have hxg:=Ext.new h (CObj.cells ⟨[.slice Gv G.length gc],24,0,0,false⟩)
 have hbg:=Nat.le_succ_of_le (m:=h.next) hb
 have hP:=own_new (h:=h.newH (CObj.cells ⟨[.slice Gv G.length gc],24,0,0,false⟩)) hbg 52 [.string d,.string t,.slice Av l.length c]
 have hG1:=own_newH hG (CObj.cells ⟨[.string d,.string t,.slice Av l.length c],52,0,0,false⟩)
 have hx0:=hxg.trans (Ext.new _ (CObj.cells ⟨[.string d,.string t,.slice Av l.length c],52,0,0,false⟩))
 have e:rightP (nms G) ⟨d,t,l⟩=(rightL (nms G) l&&kindOk (nms G) d t l.length):=by rw [rightP]
 simp -dsimp only [go_sem,g0,g1,next_newH]
 simp only [next_newH] at hP
 generalize (h.newH (CObj.cells ⟨[.slice Gv G.length gc],24,0,0,false⟩)).newH (CObj.cells ⟨[.string d,.string t,.slice Av l.length c],52,0,0,false⟩)=h2 at hP hG1 hx0 ⊢
 have hb2:h2.base≤h2.next:=by rw [hx0.base];exact Nat.le_trans hb hx0.next
 refine loop_go (n:=84) (by kernel_rfl) (fun m' a' h'=>∃i:Nat,i≤l.length∧m'=l.length - i∧Ext h2 h'∧rightL (nms G) (l.drop i)=rightL (nms G) l ∧
  a'.get 2=.pointer (some ⟨h.next,0,none⟩)∧a'.get 3=.pointer (some ⟨h.next+1,0,none⟩)∧a'.get 5=.int .i64 i) ?_ l.length _ _ (by simp -dsimp only [go_sem,hn]) ⟨0,Nat.zero_le _,rfl,Ext.refl _,rfl,by simp -dsimp only [go_sem],by simp -dsimp only [go_sem],by simp -dsimp only [go_sem];rfl⟩
 rintro m' a' h' hn' ⟨i,hi,rfl,hx,hst,e2,e3,e5⟩
 have hrom':h'.rom=r:=(hx0.trans hx).rom.trans hrom
 have hb':h'.base≤h'.next:=by rw [hx.base];exact Nat.le_trans hb2 hx.next
 have hP':=own_ext hx hP
 have hG':=own_ext hx hG1
 by_cases hlt:i<l.length
 ·have hpi:l[i]? = some l[i]:=List.getElem?_eq_getElem hlt
  have hi1:decide ((i:Int)<(l.length:Int))=true:=decide_eq_true (Int.ofNat_lt.2 hlt)
  obtain ⟨Av1,c1',hcs⟩:=(hk i _ hpi).shape
  have hat':=hat i _ hpi
  have hkid:=hk i _ hpi
  rw [hcs] at hat' hkid
  have hAv:=hA (ne_nil hlt)
  subst hAv
  obtain ⟨_,h4,hs4,rfl,hx4⟩:=ih i _ hpi h' _ hrom' hb' hkid (hnk i _ hpi)
  rw [List.drop_eq_getElem_cons hlt,rightL] at hst
  simp -dsimp only [go_sem,e2,e3,e5,hi1,load_own hP']
  refine Dw_text (n:=84) [[],[],[1],[],[1,2,3],[1,2,3,4],[0,1,2,3,4,5],[0,1,2,3,4,5,6]] (by simp -dsimp only [go_sem,hn']) (by kernel_rfl) ?_
  simp -dsimp only [go_sem,e2,e3,e5,loads_own hG',load_own hP',ia50 hlt,loads_ro (n:=3) hrom' hat' rfl,sameN_sliceA R.hs,sameN_sliceA hkid.same]
  refine ⟨_,h4,hs4,?_⟩
  simp -dsimp only [go_sem]
  cases hsm:rightP (nms G) l[i] with
  | false =>
    rw [hsm,Bool.false_and] at hst
    simp -dsimp only [go_sem,hr]
    exact ⟨by rw [e,←hst];rfl,hx0.trans (hx.trans hx4)⟩
  | true =>
    rw [hsm,Bool.true_and] at hst
    simp -dsimp only [go_sem,e2,e3,e5,wrap64_succ hlt hlb]
    exact ⟨l.length - (i+1),by omega,i+1,hlt,rfl,hx.trans hx4,hst,rfl⟩
 ·have hi0:decide ((i:Int)<(l.length:Int))=false:=decide_eq_false (by omega)
  rw [List.drop_eq_nil_of_le (by omega),rightL] at hst
  rw [←hst,Bool.true_and] at e
  simp -dsimp only [go_sem,e2,e3,e5,hi0,load_own hP']
  have hx9:=hx0.trans hx
  by_cases c1:d.data.toList=[105,115]
  ·by_cases cn:l.length=0
   ·have kn:decide ((l.length:Int)=0)=true:=by rw [int_eq0];exact decide_eq_true cn
    simp -dsimp only [go_sem,decide_eq_true c1,e2,e3,kn,load_own hP',hr]
    refine ⟨_,_,ref_atom_c t hft.1 _,?_⟩
    exact ⟨by rw [e];simp [kindOk,c1,cn],hx9⟩
   ·have kn:decide ((l.length:Int)=0)=false:=by rw [int_eq0];exact decide_eq_false cn
    simp -dsimp only [go_sem,undef',decide_eq_true c1,e2,e3,kn,load_own hP',hr]
    exact ⟨by rw [e];simp [kindOk,c1,cn],hx9⟩
  by_cases c2:d.data.toList=[114,117,108,101]
  ·by_cases cn:l.length=0
   ·have kn:decide ((l.length:Int)=0)=true:=by rw [int_eq0];exact decide_eq_true cn
    simp -dsimp only [go_sem,decide_eq_false c1,decide_eq_true c2,e2,e3,kn,load_own hP',loads_own hG',hr]
    obtain ⟨_,h5,hs5,rfl,hx5⟩:=find_c R t h' hrom' hb'
    refine ⟨_,h5,hs5,?_⟩
    simp -dsimp only [go_sem,find_ge,hr]
    exact ⟨by rw [e];simp [kindOk,c2,cn],hx9.trans hx5⟩
   ·have kn:decide ((l.length:Int)=0)=false:=by rw [int_eq0];exact decide_eq_false cn
    simp -dsimp only [go_sem,undef',decide_eq_false c1,decide_eq_true c2,e2,e3,kn,load_own hP',hr]
    exact ⟨by rw [e];simp [kindOk,c2,cn],hx9⟩
  by_cases c3:d.data.toList=[97,110,121]
  ·by_cases cn:l.length=0
   ·have kn:decide ((l.length:Int)=0)=true:=by rw [int_eq0];exact decide_eq_true cn
    simp -dsimp only [go_sem,decide_eq_false c1,decide_eq_false c2,decide_eq_true c3,e2,e3,kn,load_own hP',hr]
    exact ⟨by rw [e];simp [kindOk,c3,cn],hx9⟩
   ·have kn:decide ((l.length:Int)=0)=false:=by rw [int_eq0];exact decide_eq_false cn
    simp -dsimp only [go_sem,undef',decide_eq_false c1,decide_eq_false c2,decide_eq_true c3,e2,e3,kn,load_own hP',hr]
    exact ⟨by rw [e];simp [kindOk,c3,cn],hx9⟩
  by_cases c4:d.data.toList=[110,111,116,104,105,110,103]
  ·by_cases cn:l.length=0
   ·have kn:decide ((l.length:Int)=0)=true:=by rw [int_eq0];exact decide_eq_true cn
    simp -dsimp only [go_sem,decide_eq_false c1,decide_eq_false c2,decide_eq_false c3,decide_eq_true c4,e2,e3,kn,load_own hP',hr]
    exact ⟨by rw [e];simp [kindOk,c4,cn],hx9⟩
   ·have kn:decide ((l.length:Int)=0)=false:=by rw [int_eq0];exact decide_eq_false cn
    simp -dsimp only [go_sem,undef',decide_eq_false c1,decide_eq_false c2,decide_eq_false c3,decide_eq_true c4,e2,e3,kn,load_own hP',hr]
    exact ⟨by rw [e];simp [kindOk,c4,cn],hx9⟩
  by_cases c5:d.data.toList=[115,101,113]
  ·by_cases cn:1≤l.length
   ·have kn:decide (0<(l.length:Int))=true:=by rw [int_gt0];exact decide_eq_true cn
    simp -dsimp only [go_sem,decide_eq_false c1,decide_eq_false c2,decide_eq_false c3,decide_eq_false c4,decide_eq_true c5,e2,e3,kn,load_own hP',hr]
    exact ⟨by rw [e];simp [kindOk,c5,cn],hx9⟩
   ·have kn:decide (0<(l.length:Int))=false:=by rw [int_gt0];exact decide_eq_false cn
    simp -dsimp only [go_sem,undef',decide_eq_false c1,decide_eq_false c2,decide_eq_false c3,decide_eq_false c4,decide_eq_true c5,e2,e3,kn,load_own hP',hr]
    exact ⟨by rw [e];simp [kindOk,c5,cn],hx9⟩
  by_cases c6:d.data.toList=[111,114]
  ·by_cases cn:1≤l.length
   ·have kn:decide (0<(l.length:Int))=true:=by rw [int_gt0];exact decide_eq_true cn
    simp -dsimp only [go_sem,decide_eq_false c1,decide_eq_false c2,decide_eq_false c3,decide_eq_false c4,decide_eq_false c5,decide_eq_true c6,e2,e3,kn,load_own hP',hr]
    exact ⟨by rw [e];simp [kindOk,c6,cn],hx9⟩
   ·have kn:decide (0<(l.length:Int))=false:=by rw [int_gt0];exact decide_eq_false cn
    simp -dsimp only [go_sem,undef',decide_eq_false c1,decide_eq_false c2,decide_eq_false c3,decide_eq_false c4,decide_eq_false c5,decide_eq_true c6,e2,e3,kn,load_own hP',hr]
    exact ⟨by rw [e];simp [kindOk,c6,cn],hx9⟩
  by_cases c7:d.data.toList=[109,97,110,121]
  ·by_cases cn:l.length=1
   ·have kn:decide ((l.length:Int)=1)=true:=by rw [int_eq1];exact decide_eq_true cn
    simp -dsimp only [go_sem,decide_eq_false c1,decide_eq_false c2,decide_eq_false c3,decide_eq_false c4,decide_eq_false c5,decide_eq_false c6,decide_eq_true c7,e2,e3,kn,load_own hP',hr]
    exact ⟨by rw [e];simp [kindOk,c7,cn],hx9⟩
   ·have kn:decide ((l.length:Int)=1)=false:=by rw [int_eq1];exact decide_eq_false cn
    simp -dsimp only [go_sem,undef',decide_eq_false c1,decide_eq_false c2,decide_eq_false c3,decide_eq_false c4,decide_eq_false c5,decide_eq_false c6,decide_eq_true c7,e2,e3,kn,load_own hP',hr]
    exact ⟨by rw [e];simp [kindOk,c7,cn],hx9⟩
  by_cases c8:d.data.toList=[111,112,116]
  ·by_cases cn:l.length=1
   ·have kn:decide ((l.length:Int)=1)=true:=by rw [int_eq1];exact decide_eq_true cn
    simp -dsimp only [go_sem,decide_eq_false c1,decide_eq_false c2,decide_eq_false c3,decide_eq_false c4,decide_eq_false c5,decide_eq_false c6,decide_eq_false c7,decide_eq_true c8,e2,e3,kn,load_own hP',hr]
    exact ⟨by rw [e];simp [kindOk,c8,cn],hx9⟩
   ·have kn:decide ((l.length:Int)=1)=false:=by rw [int_eq1];exact decide_eq_false cn
    simp -dsimp only [go_sem,undef',decide_eq_false c1,decide_eq_false c2,decide_eq_false c3,decide_eq_false c4,decide_eq_false c5,decide_eq_false c6,decide_eq_false c7,decide_eq_true c8,e2,e3,kn,load_own hP',hr]
    exact ⟨by rw [e];simp [kindOk,c8,cn],hx9⟩
  by_cases c9:d.data.toList=[110,111,116]
  ·by_cases cn:l.length=1
   ·have kn:decide ((l.length:Int)=1)=true:=by rw [int_eq1];exact decide_eq_true cn
    simp -dsimp only [go_sem,decide_eq_false c1,decide_eq_false c2,decide_eq_false c3,decide_eq_false c4,decide_eq_false c5,decide_eq_false c6,decide_eq_false c7,decide_eq_false c8,decide_eq_true c9,e2,e3,kn,load_own hP',hr]
    exact ⟨by rw [e];simp [kindOk,c9,cn],hx9⟩
   ·have kn:decide ((l.length:Int)=1)=false:=by rw [int_eq1];exact decide_eq_false cn
    simp -dsimp only [go_sem,undef',decide_eq_false c1,decide_eq_false c2,decide_eq_false c3,decide_eq_false c4,decide_eq_false c5,decide_eq_false c6,decide_eq_false c7,decide_eq_false c8,decide_eq_true c9,e2,e3,kn,load_own hP',hr]
    exact ⟨by rw [e];simp [kindOk,c9,cn],hx9⟩
  simp -dsimp only [go_sem,decide_eq_false c1,decide_eq_false c2,decide_eq_false c3,decide_eq_false c4,decide_eq_false c5,decide_eq_false c6,decide_eq_false c7,decide_eq_false c8,decide_eq_false c9,e2,e3,load_own hP',hr]
  exact ⟨by rw [e];simp [kindOk,c1,c2,c3,c4,c5,c6,c7,c8,c9],hx9⟩
end Go.Ev.G24
end
section
namespace Go.Ev.G24
open Go.RowKit Go.Proofs
variable {r:Ro}
def refRs (nm:List ByteArray):List Rule→Nat→Bool
 | [],_=>true
 | x::l,i=>(plainB x.name&&(decide (findB x.name nm 0=(i:Int))&&rightP nm x.body))&&refRs nm l (i+1)
def refRightG (l:List Rule):Bool:=refRs (nms l) l 0&&decide (0<l.length)
set_option maxHeartbeats 4000000 in
set_option maxRecDepth 10000 in
theorem ref_Right_c {l:List Rule} {Av:Option Addr} {c b o:Nat} {css:Nat→List Value} (R:RoRules r l Av c b o css) (hft:fitsG l) (h:Hp) (hrom:h.rom=r) (hb:h.base≤h.next) :
  ∃v h1,Snd Try.prog 35 [.agg #[.slice Av l.length c]] h v h1∧v=.bool (refRightG l)∧Ext h h1:=by
 refine snd_go wf Try.func35 rfl rfl (n:=46) rfl (by kernel_rfl) rfl ?_
 intro a hn hg
 have hr:Try.f35.results.toList=[.tmp 2]:=rfl
 have g0:=hg 0
 clear hg
 simp only [List.getElem?_cons_zero,List.getElem?_cons_succ] at g0
 have hP:=own_new hb 24 [.slice Av l.length c]
 have hx0:=Ext.new h (CObj.cells ⟨[.slice Av l.length c],24,0,0,false⟩)
 simp -dsimp only [go_sem,g0]
 generalize h.newH (CObj.cells ⟨[.slice Av l.length c],24,0,0,false⟩)=h2 at hP hx0 ⊢
 have hb2:h2.base≤h2.next:=by rw [hx0.base];exact Nat.le_trans hb hx0.next
 refine loop_go (n:=46) (by kernel_rfl) (fun m' a' h'=>∃i:Nat,i≤l.length∧m'=l.length - i∧Ext h2 h'∧refRs (nms l) (l.drop i) i=refRs (nms l) l 0 ∧
  a'.get 1=.pointer (some ⟨h.next,0,none⟩)∧a'.get 3=.int .i64 i) ?_ l.length _ _ (by simp -dsimp only [go_sem,hn]) ⟨0,Nat.zero_le _,rfl,Ext.refl _,rfl,by simp -dsimp only [go_sem],by simp -dsimp only [go_sem];rfl⟩
 rintro m' a' h' hn' ⟨i,hi,rfl,hx,hst,e1,e3⟩
 have hrom':h'.rom=r:=(hx0.trans hx).rom.trans hrom
 have hb':h'.base≤h'.next:=by rw [hx.base];exact Nat.le_trans hb2 hx.next
 have hP':=own_ext hx hP
 by_cases hlt:i<l.length
 ·have hpi:l[i]? = some l[i]:=List.getElem?_eq_getElem hlt
  have hi1:decide ((i:Int)<(l.length:Int))=true:=decide_eq_true (Int.ofNat_lt.2 hlt)
  obtain ⟨Av1,c1',hcs⟩:=(R.hk i _ hpi).shape
  have hat':=R.hat i _ hpi
  have hkid:=R.hk i _ hpi
  rw [hcs] at hat' hkid
  have hAv:=R.hA (ne_nil hlt)
  subst hAv
  have hat2:=roAt_tail hat'
  have hld:∀{h3:Hp},h3.rom=r→h3.load ⟨b,o+i*4,none⟩=some (.string l[i].name):=by
   intro h3 h3r
   have:=load_ro h3r hat' (j:=0) (v:=.string l[i].name) rfl
   simpa using this
  rw [List.drop_eq_getElem_cons hlt,refRs] at hst
  obtain ⟨_,h4,hs4,rfl,hx4⟩:=find_c R l[i].name h' hrom' hb'
  have hrom4:=hx4.rom.trans hrom'
  have hb4:h4.base≤h4.next:=by rw [hx4.base];exact Nat.le_trans hb' hx4.next
  obtain ⟨_,h5,hs5,rfl,hx5⟩:=ref_right_c R _ l[i].body (Nat.lt_succ_self _) h4 _ hrom4 hb4 hkid (hft i _ hpi).2
  have hP4:=own_ext hx4 hP'
  have hP5:=own_ext hx5 hP4
  have hrom5:=hx5.rom.trans hrom4
  have hpl:=ref_plain_c l[i].name (hft i _ hpi).1 h'
  simp -dsimp only [go_sem,e1,e3,hi1,load_own hP']
  refine Dw_text (n:=46) [[],[0],[],[0,1,2],[0,1,2,3],[0,1,2,3,4],[0,1,2,3,4,5],[0,1,2,3,4,5,6],[0,1,2,3,4,5,6,7],[0,1,2,3,4,5,6,7,8],[0,1,2,3,4,5,6,7,8],[0,1,2,3,4,5,6,7,8,10],[0,1,2,3,4,5,6,7,8],[0,1,2,3,4,5,6,7,8,10,11,12],[0,1,2,3,4,5,6,7,8,10,11,12,13],[0,1,2,3,4,5,6,7,8,10,11,12,13,14],[0,1,2,3,4,5,6,7,8,9,10,11,12,13,14,15],[0,1,2,3,4,5,6,7,8],[0,1,2,3,4,5,6,7,8,9,10,11,12,13,14,15,16,17],[0,1,2,3,4,5,6,7,8,9,10,11,12,13,14,15,16,17,18],[0,1,2,3,4,5,6,7,8,9,10,11,12,13,14,15,16,17,18,19],[0,1,2,3,4,5,6,7,8,9,10,11,12,13,14,15,16,17,18,19,20],[0,1,2,3,4,5,6,7,8,9,10,11,12,13,14,15,16,17,18,19,20],[0,1,2,3,4,5,6,7,8,9,10,11,12,13,14,15,16,17,18,19,20,22],[0,1,2,3,4,5,6,7,8,9,10,11,12,13,14,15,16,17,18,19,20],[0,1,2,3,4,5,6,7,8,9,10,11,12,13,14,15,16,17,18,19,20,22,23,24],[0,1,2,3,4,5,6,7,8,9,10,11,12,13,14,15,16,17,18,19,20,22,23,24,25],[0,1,2,3,4,5,6,7,8,9,10,11,12,13,14,15,16,17,18,19,20,22,23,24,25,26],[0,1,2,3,4,5,6,7,8,9,10,11,12,13,14,15,16,17,18,19,20,21,22,23,24,25,26,27],[0,1,2,3,4,5,6,7,8,9,10,11,12,13,14,15,16,17,18,19,20,21,22,23,24,25,26,27,28],[0,1,2,3,4,5,6,7,8,9,10,11,12,13,14,15,16,17,18,19,20,21,22,23,24,25,26,27,28,29]] (by simp -dsimp only [go_sem,hn']) (by kernel_rfl) ?_
  simp -dsimp only [go_sem,e1,e3,load_own hP',ia22 hlt,hld hrom']
  refine ⟨_,_,hpl,?_⟩
  cases hp1:plainB l[i].name with
  | false =>
    rw [hp1,Bool.false_and,Bool.false_and] at hst
    simp -dsimp only [go_sem,undef',e1,e3,load_own hP',hr]
    exact ⟨by unfold refRightG;rw [←hst];rfl,hx0.trans hx⟩
  | true =>
    rw [hp1,Bool.true_and] at hst
    simp -dsimp only [go_sem,undef',e1,e3,load_own hP',loads_own hP',ia22 hlt,hld hrom',sameN_sliceA R.hs]
    refine ⟨_,h4,hs4,?_⟩
    by_cases hfd:findB l[i].name (nms l) 0=(i:Int)
    ·rw [decide_eq_true hfd,Bool.true_and] at hst
     simp -dsimp only [go_sem,undef',e1,e3,decide_eq_true hfd,load_own hP4,loads_own hP4,load_own hP',loads_own hP',ia22 hlt,loads_ro (n:=3) hrom4 hat2 rfl,sameN_sliceA R.hs,sameN_sliceA hkid.same]
     refine ⟨_,h5,hs5,?_⟩
     cases hrp:rightP (nms l) l[i].body with
     | false =>
       rw [hrp,Bool.false_and] at hst
       simp -dsimp only [go_sem,undef',e1,e3,hr]
       exact ⟨by unfold refRightG;rw [←hst];rfl,hx0.trans (hx.trans (hx4.trans hx5))⟩
     | true =>
       rw [hrp,Bool.true_and] at hst
       simp -dsimp only [go_sem,undef',e1,e3,wrap64_succ hlt (Nat.le_trans R.hb (by decide))]
       exact ⟨l.length - (i+1),by omega,i+1,hlt,rfl,hx.trans (hx4.trans hx5),hst,rfl⟩
    ·rw [decide_eq_false hfd,Bool.false_and,Bool.false_and] at hst
     simp -dsimp only [go_sem,undef',e1,e3,decide_eq_false hfd,hr]
     exact ⟨by unfold refRightG;rw [←hst];rfl,hx0.trans (hx.trans hx4)⟩
 ·have hi0:decide ((i:Int)<(l.length:Int))=false:=decide_eq_false (by omega)
  rw [List.drop_eq_nil_of_le (by omega),refRs] at hst
  have hg:decide (0<(l.length:Int))=decide (0<l.length):=by rw [decide_eq_decide];omega
  simp -dsimp only [go_sem,e1,e3,hi0,load_own hP',hg,hr]
  exact ⟨by unfold refRightG;rw [←hst,Bool.true_and],hx0.trans hx⟩
end Go.Ev.G24
end
section
namespace Go.Ev.G24
open Go.RowKit Go.Proofs
theorem idxOf_app (seen rest:List ByteArray) (n:ByteArray):idxOf (seen++n::rest) n=if idxOf seen n<seen.length then idxOf seen n else seen.length:=by
 unfold idxOf
 rw [List.findIdx_append]
 split
 ·rfl
 ·simp [List.findIdx_cons]
theorem find_here (seen rest:List ByteArray) (n:ByteArray):decide (findB n (seen++n::rest) 0=(seen.length:Int)) = !decide (idxOf seen n<seen.length):=by
 rw [findB_idx,idxOf_app]
 by_cases c:idxOf seen n<seen.length
 ·rw [if_pos c,if_pos (by rw [List.length_append];omega),decide_eq_true c]
  exact decide_eq_false (by omega)
 ·rw [if_neg c,if_pos (by rw [List.length_append,List.length_cons];omega),decide_eq_false c]
  exact decide_eq_true (by omega)
theorem refRs_eq:∀(l:List Rule) (seen:List ByteArray),refRs (seen++nms l) l seen.length=(fresh seen (nms l)&&rightRs (seen++nms l) l)
 | [],seen=>by simp [refRs,nms,fresh,rightRs]
 | x::l,seen=>by
   have ih:=refRs_eq l (seen++[x.name])
   have e:seen++[x.name]++nms l=seen++nms (x::l):=by simp [nms]
   rw [e,List.length_append,List.length_singleton] at ih
   have hf:=find_here seen (nms l) x.name
   have e2:seen++x.name::nms l=seen++nms (x::l):=by simp [nms]
   rw [e2] at hf
   have e3:fresh seen (nms (x::l))=(!decide (idxOf seen x.name<seen.length)&&fresh (seen++[x.name]) (nms l)):=by simp [nms,fresh]
   rw [refRs,rightRs,ih,hf,e3]
   cases plainB x.name<;>cases rightP (seen++nms (x::l)) x.body<;>cases decide (idxOf seen x.name<seen.length)<;>cases fresh (seen++[x.name]) (nms l)<;>simp
theorem refRightG_eq (l:List Rule):refRightG l=rightG l:=by
 have h:=refRs_eq l []
 simp only [List.nil_append,List.length_nil] at h
 have e:decide (0<l.length) = !decide (l.length=0):=by
  cases l<;>simp
 unfold refRightG rightG
 rw [h,e]
 cases fresh [] (nms l)<;>cases decide (l.length=0)<;>simp
end Go.Ev.G24
end
section
namespace Go.Ev.G24
open Go.RowKit Go.Proofs
variable {r:Ro}
def EmptyC (r:Ro) (G:List Rule) (Gv:Option Addr) (gc eb:Nat) (em:List Bool) (p:Part):Prop:=∀(h:Hp) (cs:List Value),h.rom=r→h.base≤h.next→h.own eb 4 (em.map .bool)→RoPart r p cs→named (nms G) p →
 ∃v h1,Snd Try.prog 84 [.agg #[.slice Gv G.length gc],.slice (some ⟨eb,0,none⟩) G.length G.length,.agg cs.toArray] h v h1∧v=.bool (mayB (emf (nms G) em) p)∧Ext h h1
set_option maxHeartbeats 4000000 in
set_option maxRecDepth 10000 in
theorem empty_c {G:List Rule} {Gv:Option Addr} {gc gb go eb:Nat} {gcss:Nat→List Value} (R:RoRules r G Gv gc gb go gcss) {em:List Bool} (hel:em.length=G.length):∀(n:Nat) (p:Part),SizeOf.sizeOf p<n→EmptyC r G Gv gc eb em p:=by
 intro n
 induction n with
 | zero=>exact fun p hp=>absurd hp (Nat.not_lt_zero _)
 | succ n ihn =>
 rintro ⟨d,t,l⟩ hn h cs hrom hb hE hp hnm
 have ih:∀(i:Nat) (p:Part),l[i]? = some p→EmptyC r G Gv gc eb em p:=fun i p hp=>ihn p (by
  have:=List.sizeOf_lt_of_mem (List.mem_of_getElem? hp)
  simp only [Part.mk.sizeOf_spec] at hn
  omega)
 have hnk:∀(i:Nat) (p:Part),l[i]? = some p→named (nms G) p:=namedL_get hnm.2.2
 have hGl:(nms G).length=G.length:=by simp [nms]
 cases hp with
 | mk _ _ _ Av c b o css hc hlb hA hat hk hs =>
 refine snd_go wf Try.func84 rfl rfl (n:=58) rfl (by kernel_rfl) rfl ?_
 intro a hn hg
 have hr:Try.f84.results.toList=[.tmp 6]:=rfl
 have g0:=hg 0
 have g1:=hg 1
 have g2:=hg 2
 clear hg
 simp only [List.getElem?_cons_zero,List.getElem?_cons_succ] at g0 g1 g2
 have hG:=own_new hb 24 [.slice Gv G.length gc]
 have hxg:=Ext.new h (CObj.cells ⟨[.slice Gv G.length gc],24,0,0,false⟩)
 have hbg:=Nat.le_succ_of_le (m:=h.next) hb
 have hP:=own_new (h:=h.newH (CObj.cells ⟨[.slice Gv G.length gc],24,0,0,false⟩)) hbg 52 [.string d,.string t,.slice Av l.length c]
 have hG1:=own_newH hG (CObj.cells ⟨[.string d,.string t,.slice Av l.length c],52,0,0,false⟩)
 have hx0:=hxg.trans (Ext.new _ (CObj.cells ⟨[.string d,.string t,.slice Av l.length c],52,0,0,false⟩))
 simp -dsimp only [go_sem,g0,g1,g2,next_newH]
 simp only [next_newH] at hP
 generalize (h.newH (CObj.cells ⟨[.slice Gv G.length gc],24,0,0,false⟩)).newH (CObj.cells ⟨[.string d,.string t,.slice Av l.length c],52,0,0,false⟩)=h2 at hP hG1 hx0 ⊢
 have hb2:h2.base≤h2.next:=by rw [hx0.base];exact Nat.le_trans hb hx0.next
 simp -dsimp only [go_sem,load_own hP]
 by_cases c1:d.data.toList=[105,115]
 ·simp -dsimp only [go_sem,decide_eq_true c1,hr]
  exact ⟨by unfold mayB;rw [if_pos c1],hx0⟩
 by_cases c2:d.data.toList=[97,110,121]
 ·simp -dsimp only [go_sem,decide_eq_false c1,decide_eq_true c2,hr]
  exact ⟨by unfold mayB;rw [if_neg c1,if_pos c2],hx0⟩
 by_cases c3:d.data.toList=[114,117,108,101]
 ·have hidx:idxOf (nms G) t<(nms G).length:=hnm.1 c3
  have hidx2:idxOf (nms G) t<em.length:=by omega
  have hem:(em.map Value.bool)[idxOf (nms G) t]? = some (.bool (emf (nms G) em t)):=by
   simp only [List.getElem?_map,emf,List.getD_eq_getElem?_getD,List.getElem?_eq_getElem hidx2,Option.map_some,Option.getD_some]
  simp -dsimp only [go_sem,g1,decide_eq_false c1,decide_eq_false c2,decide_eq_true c3,loads_own hG1,load_own hP,hr]
  obtain ⟨_,h5,hs5,rfl,hx5⟩:=find_c R t h2 (hx0.rom.trans hrom) hb2
  refine ⟨_,h5,hs5,?_⟩
  have hE5:=own_ext (hx0.trans hx5) hE
  have hfi:findB t (nms G) 0=((idxOf (nms G) t:Nat):Int):=by rw [findB_idx,if_pos hidx,Nat.zero_add]
  rw [hGl] at hidx
  simp -dsimp only [go_sem,g1,hfi,ia105 hidx,load_own hE5,hem,hr]
  exact ⟨by unfold mayB;rw [if_neg c1,if_neg c2,if_pos c3],hx0.trans hx5⟩
 by_cases c4:d.data.toList=[115,101,113]
 ·have e:mayB (emf (nms G) em) ⟨d,t,l⟩=mayAll (emf (nms G) em) l:=by unfold mayB;rw [if_neg c1,if_neg c2,if_neg c3,if_pos c4]
  simp -dsimp only [go_sem,decide_eq_false c1,decide_eq_false c2,decide_eq_false c3,decide_eq_true c4,hr]
  refine loop_go (n:=58) (by kernel_rfl) (fun m' a' h'=>∃i:Nat,i≤l.length∧m'=l.length - i∧Ext h2 h'∧a'.get 1=.slice (some ⟨eb,0,none⟩) G.length G.length∧a'.get 3=.pointer (some ⟨h.next,0,none⟩)∧a'.get 5=.pointer (some ⟨h.next+1,0,none⟩)∧a'.get 7=.int .i64 i∧∀(j:Nat) (p:Part),j<i→l[j]? = some p→mayB (emf (nms G) em) p=true) ?_ l.length _ _ (by simp -dsimp only [go_sem,hn]) ⟨0,Nat.zero_le _,rfl,Ext.refl _,by simp -dsimp only [go_sem,g1],by simp -dsimp only [go_sem],by simp -dsimp only [go_sem],by simp -dsimp only [go_sem];rfl,fun j p hj=>absurd hj (Nat.not_lt_zero _)⟩
  rintro m' a' h' hn' ⟨i,hi,rfl,hx,e1,e3,e5,e7,hall⟩
  have hrom':h'.rom=r:=(hx0.trans hx).rom.trans hrom
  have hb':h'.base≤h'.next:=by rw [hx.base];exact Nat.le_trans hb2 hx.next
  have hP':=own_ext hx hP
  have hG':=own_ext hx hG1
  by_cases hlt:i<l.length
  ·have hpi:l[i]? = some l[i]:=List.getElem?_eq_getElem hlt
   have hi1:decide ((i:Int)<(l.length:Int))=true:=decide_eq_true (Int.ofNat_lt.2 hlt)
   obtain ⟨Av1,c1',hcs⟩:=(hk i _ hpi).shape
   have hat':=hat i _ hpi
   have hkid:=hk i _ hpi
   rw [hcs] at hat' hkid
   have hAv:=hA (ne_nil hlt)
   subst hAv
   obtain ⟨_,h4,hs4,rfl,hx4⟩:=ih i _ hpi h' _ hrom' hb' (own_ext (hx0.trans hx) hE) hkid (hnk i _ hpi)
   simp -dsimp only [go_sem,e1,e3,e5,e7,hi1,load_own hP']
   refine Dw_text (n:=58) [[],[],[],[2],[],[2,3,4],[2,3,4,5],[0,1,2,3,4,5,6],[0,1,2,3,4,5,6,7]] (by simp -dsimp only [go_sem,hn']) (by kernel_rfl) ?_
   simp -dsimp only [go_sem,e1,e3,e5,e7,loads_own hG',load_own hP',ia50 hlt,loads_ro (n:=3) hrom' hat' rfl,sameN_sliceA R.hs,sameN_sliceA hkid.same]
   refine ⟨_,h4,hs4,?_⟩
   simp -dsimp only [go_sem]
   cases hsm:mayB (emf (nms G) em) l[i] with
   | false =>
     simp -dsimp only [go_sem,hr]
     refine ⟨?_,hx0.trans (hx.trans hx4)⟩
     rw [e]
     cases hq:mayAll (emf (nms G) em) l with
     | false=>rfl
     | true=>rw [(mayAll_iff _ l).1 hq i _ hpi] at hsm;cases hsm
   | true =>
     simp -dsimp only [go_sem,e1,e3,e5,e7,wrap64_succ hlt hlb]
     refine ⟨l.length - (i+1),by omega,i+1,hlt,rfl,hx.trans hx4,rfl,fun j p hj hp => ?_⟩
     rcases Nat.lt_succ_iff_lt_or_eq.1 hj with h|h
     ·exact hall j p h hp
     ·subst h;rw [hpi] at hp;injection hp with hp;subst hp;exact hsm
  ·have hi0:decide ((i:Int)<(l.length:Int))=false:=decide_eq_false (by omega)
   have hall':mayAll (emf (nms G) em) l=true:=(mayAll_iff _ l).2 fun j p hp=>hall j p (by have:=(List.getElem?_eq_some_iff.1 hp).1;omega) hp
   simp -dsimp only [go_sem,e5,e7,hi0,load_own hP',hr]
   exact ⟨by rw [e,hall'],hx0.trans hx⟩
 by_cases c5:d.data.toList=[111,114]
 ·have e:mayB (emf (nms G) em) ⟨d,t,l⟩=mayAny (emf (nms G) em) l:=by unfold mayB;rw [if_neg c1,if_neg c2,if_neg c3,if_neg c4,if_pos c5]
  simp -dsimp only [go_sem,decide_eq_false c1,decide_eq_false c2,decide_eq_false c3,decide_eq_false c4,decide_eq_true c5,hr]
  refine loop_go (n:=58) (by kernel_rfl) (fun m' a' h'=>∃i:Nat,i≤l.length∧m'=l.length - i∧Ext h2 h'∧a'.get 1=.slice (some ⟨eb,0,none⟩) G.length G.length∧a'.get 3=.pointer (some ⟨h.next,0,none⟩)∧a'.get 5=.pointer (some ⟨h.next+1,0,none⟩)∧a'.get 8=.int .i64 i∧∀(j:Nat) (p:Part),j<i→l[j]? = some p→mayB (emf (nms G) em) p=false) ?_ l.length _ _ (by simp -dsimp only [go_sem,hn]) ⟨0,Nat.zero_le _,rfl,Ext.refl _,by simp -dsimp only [go_sem,g1],by simp -dsimp only [go_sem],by simp -dsimp only [go_sem],by simp -dsimp only [go_sem];rfl,fun j p hj=>absurd hj (Nat.not_lt_zero _)⟩
  rintro m' a' h' hn' ⟨i,hi,rfl,hx,e1,e3,e5,e7,hall⟩
  have hrom':h'.rom=r:=(hx0.trans hx).rom.trans hrom
  have hb':h'.base≤h'.next:=by rw [hx.base];exact Nat.le_trans hb2 hx.next
  have hP':=own_ext hx hP
  have hG':=own_ext hx hG1
  by_cases hlt:i<l.length
  ·have hpi:l[i]? = some l[i]:=List.getElem?_eq_getElem hlt
   have hi1:decide ((i:Int)<(l.length:Int))=true:=decide_eq_true (Int.ofNat_lt.2 hlt)
   obtain ⟨Av1,c1',hcs⟩:=(hk i _ hpi).shape
   have hat':=hat i _ hpi
   have hkid:=hk i _ hpi
   rw [hcs] at hat' hkid
   have hAv:=hA (ne_nil hlt)
   subst hAv
   obtain ⟨_,h4,hs4,rfl,hx4⟩:=ih i _ hpi h' _ hrom' hb' (own_ext (hx0.trans hx) hE) hkid (hnk i _ hpi)
   simp -dsimp only [go_sem,e1,e3,e5,e7,hi1,load_own hP']
   refine Dw_text (n:=58) [[],[],[],[2],[],[2,3,4],[2,3,4,5],[0,1,2,3,4,5,6]] (by simp -dsimp only [go_sem,hn']) (by kernel_rfl) ?_
   simp -dsimp only [go_sem,e1,e3,e5,e7,loads_own hG',load_own hP',ia50 hlt,loads_ro (n:=3) hrom' hat' rfl,sameN_sliceA R.hs,sameN_sliceA hkid.same]
   refine ⟨_,h4,hs4,?_⟩
   simp -dsimp only [go_sem]
   cases hsm:mayB (emf (nms G) em) l[i] with
   | true =>
     simp -dsimp only [go_sem,hr]
     refine ⟨?_,hx0.trans (hx.trans hx4)⟩
     rw [e]
     cases hq:mayAny (emf (nms G) em) l with
     | true=>rfl
     | false=>rw [(mayAny_iff _ l).1 hq i _ hpi] at hsm;cases hsm
   | false =>
     simp -dsimp only [go_sem,e1,e3,e5,e7,wrap64_succ hlt hlb]
     refine ⟨l.length - (i+1),by omega,i+1,hlt,rfl,hx.trans hx4,rfl,fun j p hj hp => ?_⟩
     rcases Nat.lt_succ_iff_lt_or_eq.1 hj with h|h
     ·exact hall j p h hp
     ·subst h;rw [hpi] at hp;injection hp with hp;subst hp;exact hsm
  ·have hi0:decide ((i:Int)<(l.length:Int))=false:=decide_eq_false (by omega)
   have hall':mayAny (emf (nms G) em) l=false:=(mayAny_iff _ l).2 fun j p hp=>hall j p (by have:=(List.getElem?_eq_some_iff.1 hp).1;omega) hp
   simp -dsimp only [go_sem,e5,e7,hi0,load_own hP',hr]
   exact ⟨by rw [e,hall'],hx0.trans hx⟩
 simp -dsimp only [go_sem,decide_eq_false c1,decide_eq_false c2,decide_eq_false c3,decide_eq_false c4,decide_eq_false c5,hr]
 exact ⟨by unfold mayB;rw [if_neg c1,if_neg c2,if_neg c3,if_neg c4,if_neg c5],hx0⟩
end Go.Ev.G24
end
section
namespace Go.Ev.G24
open Go.RowKit Go.Proofs
variable {r:Ro}
set_option maxHeartbeats 4000000 in
set_option maxRecDepth 10000 in
theorem empties_pass {l:List Rule} {Av:Option Addr} {c b o gp eb:Nat} {css:Nat→List Value} (R:RoRules r l Av c b o css) (hnm:∀(i:Nat) (x:Rule),l[i]? = some x→named (nms l) x.body)
  {a:Ev.A} {h:Hp} {em:List Bool} {Q:Ex→Ev.A→Hp→Prop} (hn:a.n=37) (hrom:h.rom=r) (hb:h.base≤h.next) (hP:h.own gp 24 [.slice Av l.length c]) (hE:h.own eb 4 (em.map .bool)) (hel:em.length=l.length)
  (g1:a.get 1=.pointer (some ⟨gp,0,none⟩)) (g3:a.get 3=.slice (some ⟨eb,0,none⟩) l.length l.length) (g4:a.get 4=.bool false) (g5:a.get 5=.int .i64 0)
  (hq:∀a1 h1 em1 ag,a1.n=37→ExtS (Only eb) h h1→h1.own eb 4 (em1.map .bool)→em1.length=l.length→passB (nms l) (l.map (·.body)) 0 em=em1→a1.get 1=.pointer (some ⟨gp,0,none⟩)→a1.get 3=.slice (some ⟨eb,0,none⟩) l.length l.length→a1.get 4=.bool ag→(if ag=true then cf em1<cf em else em1=em)→Q (.exit 2) a1 h1) :
  Th Try.prog (bodyAt Try.f58 [1,1,0,1,0,0,1,0,1,1,0]) a h Q ⟨⟩ ⟨⟩:=by
 simp only [bodyAt,nav,Try.f58]
 have hne:gp≠eb:=by
  intro e;have:=hP.2.2;rw [e,hE.2.2] at this;simp at this
 refine loop_go (n:=37) (by kernel_rfl) (fun m' a' h'=>∃(i:Nat) (em':List Bool) (ag:Bool),i≤l.length∧m'=l.length - i∧ExtS (Only eb) h h'∧h'.own eb 4 (em'.map .bool)∧em'.length=l.length∧passB (nms l) ((l.drop i).map (·.body)) i em'=passB (nms l) (l.map (·.body)) 0 em∧(if ag=true then cf em'<cf em else em'=em) ∧
  a'.get 1=.pointer (some ⟨gp,0,none⟩)∧a'.get 3=.slice (some ⟨eb,0,none⟩) l.length l.length∧a'.get 4=.bool ag∧a'.get 5=.int .i64 i) ?_ l.length _ _ hn ⟨0,em,false,Nat.zero_le _,rfl,(Ext.refl _).toS,hE,hel,by rw [List.drop_zero],rfl,g1,g3,g4,g5⟩
 rintro m' a' h' hn' ⟨i,em',ag,hi,rfl,hx,hE',hel',hps,hag,e1,e3,e4,e5⟩
 have hrom':h'.rom=r:=ext_rom hx hrom
 have hb':h'.base≤h'.next:=ext_bn hx hb
 have hP':=own_extS hx hP hne
 by_cases hlt:i<l.length
 ·have hpi:l[i]? = some l[i]:=List.getElem?_eq_getElem hlt
  have hi1:decide ((i:Int)<(l.length:Int))=true:=decide_eq_true (Int.ofNat_lt.2 hlt)
  obtain ⟨Av1,c1',hcs⟩:=(R.hk i _ hpi).shape
  have hat':=R.hat i _ hpi
  have hkid:=R.hk i _ hpi
  rw [hcs] at hat' hkid
  have hat2:=roAt_tail hat'
  have hAv:=R.hA (ne_nil hlt)
  subst hAv
  have hil:i<em'.length:=by rw [hel'];exact hlt
  have hdr:(l.drop i).map (·.body)=l[i].body::(l.drop (i+1)).map (·.body):=by
   rw [List.drop_eq_getElem_cons hlt,List.map_cons]
  rw [hdr,passB] at hps
  have hget:em'.getD i false=em'[i]:=by simp [List.getD,List.getElem?_eq_getElem hil]
  have hmi:(em'.map Value.bool)[i]? = some (.bool em'[i]):=by simp [List.getElem?_eq_getElem hil]
  rw [hget] at hps
  simp -dsimp only [go_sem,e1,e3,e4,e5,hi1]
  refine Dw_text (n:=37) [[],[],[0,1],[0,1,2],[0,1,2,3],[0,1,2,3,4],[0,1,2,3,4,5],[0,1,2,3,4,5],[0,1,2,3,4,5],[0,1,2,3,4,5,8],[0,1,2,3,4,5],[0,1,2,3,4,5,8,9,10],[0,1,2,3,4,5,8,9,10,11],[0,1,2,3,4,5,8,9,10,11,12],[0,1,2,3,4,5,6,7,8,9,10,11,12,13],[0,1,2,3,4,5,6,7,8,9,10,11,12,13,14]] (by simp -dsimp only [go_sem,hn']) (by kernel_rfl) ?_
  cases hei:em'[i] with
  | true =>
    rw [hei] at hmi hps
    simp -dsimp only [go_sem,undef',e1,e3,e4,e5,load_own hE',ia105 hlt,hmi,wrap64_succ hlt (Nat.le_trans R.hb (by decide))]
    rw [if_neg (by simp)] at hps
    exact ⟨l.length - (i+1),by omega,i+1,em',ag,hlt,rfl,hx,hE',hel',hps,hag,rfl,rfl⟩
  | false =>
    rw [hei] at hmi hps
    obtain ⟨_,h4,hs4,rfl,hx4⟩:=empty_c R (em:=em') (eb:=eb) hel' _ l[i].body (Nat.lt_succ_self _) h' _ hrom' hb' hE' hkid (hnm i _ hpi)
    simp -dsimp only [go_sem,undef',e1,e3,e4,e5,load_own hE',load_own hP',loads_own hP',ia105 hlt,ia22 hlt,hmi,loads_ro (n:=3) hrom' hat2 rfl,sameN_sliceA R.hs,sameN_sliceA hkid.same]
    refine ⟨_,h4,hs4,?_⟩
    have hE4:=own_ext hx4 hE'
    have hx5:ExtS (Only eb) h h4:=hx.trans hx4.toS
    simp -dsimp only [go_sem,undef']
    cases hm:mayB (emf (nms l) em') l[i].body with
    | true =>
      have hsto:=stores_own hE4 (o:=i) (vs:=[.bool true]) rfl (bool_store hil) (by simp)
      simp -dsimp only [go_sem,e1,e3,e4,e5,ia105 hlt,hsto,wrap64_succ hlt (Nat.le_trans R.hb (by decide))]
      rw [hm,if_pos (by simp)] at hps
      refine ⟨l.length - (i+1),by omega,i+1,_,true,hlt,rfl,hx5.put (.inr rfl) _,own_put_same hE4 _,by simp [hel'],hps,?_,rfl,rfl⟩
      rw [if_pos rfl]
      have h1:cf (em'.set i true)<cf em':=cf_set (by rw [List.getElem?_eq_getElem hil,hei])
      cases ag with
      | true=>exact Nat.lt_trans h1 hag
      | false=>simp at hag;rw [hag] at h1;rw [hag];exact h1
    | false =>
      simp -dsimp only [go_sem,e1,e3,e4,e5,wrap64_succ hlt (Nat.le_trans R.hb (by decide))]
      rw [hm,if_neg (by simp)] at hps
      exact ⟨l.length - (i+1),by omega,i+1,em',ag,hlt,rfl,hx5,hE4,hel',hps,hag,rfl,rfl⟩
 ·have hi0:decide ((i:Int)<(l.length:Int))=false:=decide_eq_false (by omega)
  simp -dsimp only [go_sem,e3,e5,hi0]
  refine hq _ _ em' ag ?_ hx hE' hel' ?_ ?_ ?_ ?_ hag
  ·simp -dsimp only [go_sem,hn']
  ·rw [←hps,List.drop_eq_nil_of_le (by omega)];rfl
  ·simp -dsimp only [go_sem,e1]
  ·simp -dsimp only [go_sem,e3]
  ·simp -dsimp only [go_sem,e4]
set_option maxHeartbeats 4000000 in
set_option maxRecDepth 10000 in
theorem empties_c {l:List Rule} {Av:Option Addr} {c b o:Nat} {css:Nat→List Value} (R:RoRules r l Av c b o css) (hnm:∀(i:Nat) (x:Rule),l[i]? = some x→named (nms l) x.body) (h:Hp) (hrom:h.rom=r) (hb:h.base≤h.next) :
  ∃v h1,Snd Try.prog 58 [.agg #[.slice Av l.length c]] h v h1∧Ext h h1∧∃eb em,v=.slice (some ⟨eb,0,none⟩) l.length l.length∧h.next≤eb∧h1.own eb 4 (em.map .bool)∧em.length=l.length∧Found l em:=by
 refine snd_go wf Try.func58 rfl rfl (n:=37) rfl (by kernel_rfl) rfl ?_
 intro a hn hg
 have hr:Try.f58.results.toList=[.tmp 2]:=rfl
 have g0:=hg 0
 clear hg
 simp only [List.getElem?_cons_zero,List.getElem?_cons_succ] at g0
 have hP:=own_new hb 24 [.slice Av l.length c]
 have hx0:=Ext.new h (CObj.cells ⟨[.slice Av l.length c],24,0,0,false⟩)
 have hb1:=Nat.le_succ_of_le (m:=h.next) hb
 have hE:=own_new (h:=h.newH (CObj.cells ⟨[.slice Av l.length c],24,0,0,false⟩)) hb1 4 (repeatN [.bool false] l.length)
 have hP1:=own_newH hP (CObj.cells { c:=repeatN [.bool false] l.length,e:=4,fam:=0,base:=0,grown:=false })
 have hx1:=hx0.trans (Ext.new _ (CObj.cells { c:=repeatN [.bool false] l.length,e:=4,fam:=0,base:=0,grown:=false }))
 simp -dsimp only [go_sem,g0,next_newH,load_own hP,ms105 l.length l.length (Nat.le_refl _) R.hb]
 simp only [next_newH] at hE hx1
 rw [repeat_bool] at hE hx1 hP1 ⊢
 generalize (h.newH (CObj.cells ⟨[.slice Av l.length c],24,0,0,false⟩)).newH (CObj.cells { c:=(List.replicate l.length false).map Value.bool,e:=4,fam:=0,base:=0,grown:=false })=h2 at hE hx1 hP1 ⊢
 refine loop_go (n:=37) (by kernel_rfl) (fun m' a' h'=>∃(em:List Bool) (ag:Bool),m'=2*cf em+(if ag=true then 1 else 0)∧em.length=l.length∧(∃k,em=iter (passB (nms l) (l.map (·.body)) 0) k (List.replicate l.length false))∧(ag=false→passB (nms l) (l.map (·.body)) 0 em=em)∧Ext h h'∧h'.own (h.next+1) 4 (em.map .bool)∧h'.own h.next 24 [.slice Av l.length c] ∧
  a'.get 1=.pointer (some ⟨h.next,0,none⟩)∧a'.get 3=.slice (some ⟨h.next+1,0,none⟩) l.length l.length∧a'.get 4=.bool ag) ?_ (2*cf (List.replicate l.length false)+1) _ _ (by simp -dsimp only [go_sem,hn]) ⟨_,true,rfl,by simp,⟨0,rfl⟩,fun e=>(by cases e),hx1,hE,hP1,by simp -dsimp only [go_sem],by simp -dsimp only [go_sem],by simp -dsimp only [go_sem]⟩
 rintro m' a' h' hn' ⟨em,ag,rfl,hel,⟨k,hk⟩,hfix,hx,hE',hP',e1,e3,e4⟩
 have hrom':h'.rom=r:=hx.rom.trans hrom
 have hb':h'.base≤h'.next:=by rw [hx.base];exact Nat.le_trans hb hx.next
 cases ag with
 | false =>
   simp -dsimp only [go_sem,e3,e4,hr]
   exact ⟨hx,h.next+1,em,rfl,by omega,hE',hel,⟨k,hk⟩,hfix rfl⟩
 | true =>
   simp -dsimp only [go_sem,e1,e3,e4]
   refine empties_pass R hnm (em:=em) (eb:=h.next+1) (gp:=h.next) (by simp -dsimp only [go_sem,hn']) hrom' hb' hP' hE' hel (by simp -dsimp only [go_sem,e1]) (by simp -dsimp only [go_sem,e3]) (by simp -dsimp only [go_sem]) (by simp -dsimp only [go_sem]) (fun a1 h1 em1 ag hn1 hx1 hE1 hel1 hp f1 f3 f4 hag => ?_)
   have hxx:Ext h h1:=(hx.toS.trans hx1).ext (fun b hb hs=>by
    have:b=h.next+1:=hs
    omega)
   simp -dsimp only [go_sem]
   refine ⟨2*cf em1+(if ag=true then 1 else 0),?_,em1,ag,rfl,hel1,⟨k+1,by rw [iter,←hk];exact hp.symm⟩,?_,hxx,hE1,own_extS hx1 hP' (by show h.next≠h.next+1;omega),f1,f3,f4⟩
   ·cases ag with
    | true=>simp at hag ⊢;omega
    | false=>simp at hag ⊢;rw [hag];omega
   ·intro e
    subst e
    simp at hag
    rw [hag] at hp ⊢
    exact hp
end Go.Ev.G24
end
section
namespace Go.Ev.G24
open Go.RowKit Go.Proofs
variable {r:Ro}
theorem kind_leaf {nm:List ByteArray} {d t:ByteArray} {n:Nat} (h:kindOk nm d t n=true) (h1:¬d.data.toList=[115,101,113]) (h2:¬d.data.toList=[111,114]) (h3:¬d.data.toList=[109,97,110,121]) (h4:¬d.data.toList=[111,112,116]) (h5:¬d.data.toList=[110,111,116]):n=0:=by
 unfold kindOk at h
 by_cases c1:d.data.toList=[105,115]
 ·rw [if_pos c1,Bool.and_eq_true] at h;exact of_decide_eq_true h.1
 rw [if_neg c1] at h
 by_cases c2:d.data.toList=[114,117,108,101]
 ·rw [if_pos c2,Bool.and_eq_true] at h;exact of_decide_eq_true h.1
 rw [if_neg c2] at h
 split at h
 ·cases h
 split at h
 ·exact of_decide_eq_true h
 rw [if_neg (by rintro (c|c);exact h1 c;exact h2 c),if_neg (by rintro (c|c|c);exact h3 c;exact h4 c;exact h5 c)] at h
 cases h
theorem kind_rule0 {nm:List ByteArray} {d t:ByteArray} {n:Nat} (h:kindOk nm d t n=true) (hd:d.data.toList=[114,117,108,101]):n=0 :=
 kind_leaf h (by rw [hd];decide) (by rw [hd];decide) (by rw [hd];decide) (by rw [hd];decide) (by rw [hd];decide)
theorem rightL_get {nm:List ByteArray}:∀{l:List Part},rightL nm l=true→∀(i:Nat) (p:Part),l[i]? = some p→rightP nm p=true
 | y::l,h,i,x,hx=>by
   rw [rightL,Bool.and_eq_true] at h
   cases i with
   | zero=>simp at hx;subst hx;exact h.1
   | succ i=>exact rightL_get h.2 i x (by simpa using hx)
def LeftC (r:Ro) (G:List Rule) (Gv:Option Addr) (gc eb tb:Nat) (em:List Bool) (p:Part):Prop:=∀(h:Hp) (cs:List Value) (bs:List Bool),h.rom=r→h.base≤h.next→h.own eb 4 (em.map .bool)→RoPart r p cs→rightP (nms G) p=true →
 h.own tb 4 (bs.map .bool)→bs.length=G.length →
 ∃v h1,Snd Try.prog 59 [.agg #[.slice Gv G.length gc],.slice (some ⟨eb,0,none⟩) G.length G.length,.agg cs.toArray,.slice (some ⟨tb,0,none⟩) G.length G.length] h v h1∧v=.tuple #[]∧ExtS (Only tb) h h1∧h1.own tb 4 ((startB (emf (nms G) em) (idxOf (nms G)) p bs).map .bool)
set_option maxHeartbeats 8000000 in
set_option maxRecDepth 10000 in
theorem left_c {G:List Rule} {Gv:Option Addr} {gc gb go eb tb:Nat} {gcss:Nat→List Value} (R:RoRules r G Gv gc gb go gcss) {em:List Bool} (hel:em.length=G.length) (het:eb≠tb):∀(n:Nat) (p:Part),SizeOf.sizeOf p<n→LeftC r G Gv gc eb tb em p:=by
 intro n
 induction n with
 | zero=>exact fun p hp=>absurd hp (Nat.not_lt_zero _)
 | succ n ihn =>
 rintro ⟨d,t,l⟩ hn h cs bs hrom hb hE hp hrp hT hbl
 have ih:∀(i:Nat) (p:Part),l[i]? = some p→LeftC r G Gv gc eb tb em p:=fun i p hp=>ihn p (by
  have:=List.sizeOf_lt_of_mem (List.mem_of_getElem? hp)
  simp only [Part.mk.sizeOf_spec] at hn
  omega)
 have hrp0:=hrp
 rw [rightP,Bool.and_eq_true] at hrp
 obtain ⟨hrl,hko⟩:=hrp
 have hnk:∀(i:Nat) (p:Part),l[i]? = some p→rightP (nms G) p=true:=rightL_get hrl
 have hGl:(nms G).length=G.length:=by simp [nms]
 cases hp with
 | mk _ _ _ Av c b o css hc hlb hA hat hk hs =>
 refine snd_go wf Try.func59 rfl rfl (n:=68) rfl (by kernel_rfl) rfl ?_
 intro a hn hg
 have hr:Try.f59.results.toList=[]:=rfl
 have g0:=hg 0
 have g1:=hg 1
 have g2:=hg 2
 have g3:=hg 3
 clear hg
 simp only [List.getElem?_cons_zero,List.getElem?_cons_succ] at g0 g1 g2 g3
 have hG:=own_new hb 24 [.slice Gv G.length gc]
 have hxg:=Ext.new h (CObj.cells ⟨[.slice Gv G.length gc],24,0,0,false⟩)
 have hbg:=Nat.le_succ_of_le (m:=h.next) hb
 have hP:=own_new (h:=h.newH (CObj.cells ⟨[.slice Gv G.length gc],24,0,0,false⟩)) hbg 52 [.string d,.string t,.slice Av l.length c]
 have hG1:=own_newH hG (CObj.cells ⟨[.string d,.string t,.slice Av l.length c],52,0,0,false⟩)
 have hx0:=hxg.trans (Ext.new _ (CObj.cells ⟨[.string d,.string t,.slice Av l.length c],52,0,0,false⟩))
 simp -dsimp only [go_sem,g0,g1,g2,g3,next_newH]
 simp only [next_newH] at hP
 generalize (h.newH (CObj.cells ⟨[.slice Gv G.length gc],24,0,0,false⟩)).newH (CObj.cells ⟨[.string d,.string t,.slice Av l.length c],52,0,0,false⟩)=h2 at hP hG1 hx0 ⊢
 have hb2:h2.base≤h2.next:=by rw [hx0.base];exact Nat.le_trans hb hx0.next
 have hT2:=own_ext hx0 hT
 have hE2:=own_ext hx0 hE
 have htn:tb<h.next:=hT.2.1
 have hpt:h.next≠tb:=Nat.ne_of_gt htn
 have hpt1:h.next+1≠tb:=by omega
 simp -dsimp only [go_sem,load_own hP]
 have estart:∀sq:Bool,l=[]→startL (emf (nms G) em) (idxOf (nms G)) sq l bs=bs:=by
  intro sq e;subst e;rw [startL]
 by_cases c1:d.data.toList=[114,117,108,101]
 ·have hidx:idxOf (nms G) t<(nms G).length:=kind_rule hko c1
  have hl0:l=[]:=List.length_eq_zero_iff.1 (kind_rule0 hko c1)
  obtain ⟨_,h5,hs5,rfl,hx5⟩:=find_c R t h2 (hx0.rom.trans hrom) hb2
  have hfi:findB t (nms G) 0=((idxOf (nms G) t:Nat):Int):=by rw [findB_idx,if_pos hidx,Nat.zero_add]
  rw [hGl] at hidx
  have hsto:=stores_own (own_ext hx5 hT2) (o:=idxOf (nms G) t) (vs:=[.bool true]) rfl (bool_store (by rw [hbl];exact hidx)) (by simp)
  simp -dsimp only [go_sem,g3,decide_eq_true c1,load_own hP,loads_own hG1,hr]
  refine ⟨_,h5,hs5,?_⟩
  simp -dsimp only [go_sem,g3,hfi,ia105 hidx,hsto,hr]
  refine ⟨((hx0.trans hx5).toS (S:=Only tb)).put (.inr rfl) _,?_⟩
  have e:startB (emf (nms G) em) (idxOf (nms G)) ⟨d,t,l⟩ bs=bs.set (idxOf (nms G) t) true:=by
   unfold startB
   rw [if_pos c1]
   subst hl0
   rw [startL]
  rw [e]
  exact own_put_same (own_ext hx5 hT2) _
 have estart2:∀sq:Bool,decide (d.data.toList=[115,101,113])=sq→startB (emf (nms G) em) (idxOf (nms G)) ⟨d,t,l⟩ bs=startL (emf (nms G) em) (idxOf (nms G)) sq l bs:=by
  intro sq e;unfold startB;rw [if_neg c1,e]
 by_cases c2:d.data.toList=[115,101,113]
 ·simp -dsimp only [go_sem,decide_eq_false c1,decide_eq_true c2,hr]
  refine loop_go (n:=68) (by kernel_rfl) (fun m' a' h'=>∃(i:Nat) (bs':List Bool),i≤l.length∧m'=l.length - i∧ExtS (Only tb) h2 h'∧h'.own tb 4 (bs'.map .bool)∧bs'.length=G.length∧startL (emf (nms G) em) (idxOf (nms G)) true (l.drop i) bs'=startL (emf (nms G) em) (idxOf (nms G)) true l bs ∧
   a'.get 1=.slice (some ⟨eb,0,none⟩) G.length G.length∧a'.get 3=.slice (some ⟨tb,0,none⟩) G.length G.length∧a'.get 4=.pointer (some ⟨h.next,0,none⟩)∧a'.get 6=.pointer (some ⟨h.next+1,0,none⟩)∧a'.get 8=.int .i64 i) ?_ l.length _ _ (by simp -dsimp only [go_sem,hn]) ⟨0,bs,Nat.zero_le _,rfl,(Ext.refl _).toS,hT2,hbl,by rw [List.drop_zero],by simp -dsimp only [go_sem,g1],by simp -dsimp only [go_sem,g3],by simp -dsimp only [go_sem],by simp -dsimp only [go_sem],by simp -dsimp only [go_sem];rfl⟩
  rintro m' a' h' hn' ⟨i,bs',hi,rfl,hx,hT',hbl',hst,e1,e3,e4,e6,e8⟩
  have hrom':h'.rom=r:=ext_rom hx (hx0.rom.trans hrom)
  have hb':h'.base≤h'.next:=ext_bn hx hb2
  have hP':=own_extS hx hP hpt1
  have hG':=own_extS hx hG1 hpt
  have hE':=own_extS hx hE2 het
  by_cases hlt:i<l.length
  ·have hpi:l[i]? = some l[i]:=List.getElem?_eq_getElem hlt
   have hi1:decide ((i:Int)<(l.length:Int))=true:=decide_eq_true (Int.ofNat_lt.2 hlt)
   obtain ⟨Av1,c1',hcs⟩:=(hk i _ hpi).shape
   have hat':=hat i _ hpi
   have hkid:=hk i _ hpi
   rw [hcs] at hat' hkid
   have hAv:=hA (ne_nil hlt)
   subst hAv
   obtain ⟨_,h4,hs4,rfl,hx4,hT4⟩:=ih i _ hpi h' _ bs' hrom' hb' hE' hkid (hnk i _ hpi) hT' hbl'
   simp -dsimp only [go_sem,e1,e3,e4,e6,e8,hi1,load_own hP']
   refine Dw_text (n:=68) [[],[],[],[2],[],[2,3,4],[2,3,4,5],[],[0,1,2,3,4,5,6,7]] (by simp -dsimp only [go_sem,hn']) (by kernel_rfl) ?_
   simp -dsimp only [go_sem,e1,e3,e4,e6,e8,loads_own hG',load_own hP',loads_own hP',ia50 hlt,loads_ro (n:=3) hrom' hat' rfl,sameN_sliceA R.hs,sameN_sliceA hkid.same]
   refine ⟨_,h4,hs4,?_⟩
   rw [List.drop_eq_getElem_cons hlt,startL] at hst
   have hx5:ExtS (Only tb) h2 h4:=hx.trans hx4
   have hP4:=own_extS hx4 hP' hpt1
   have hG4:=own_extS hx4 hG' hpt
   have hE4:=own_extS hx4 hE' het
   have hrom4:h4.rom=r:=ext_rom hx4 hrom'
   have hb4:h4.base≤h4.next:=ext_bn hx4 hb'
   obtain ⟨_,h6,hs6,rfl,hx6⟩:=empty_c R (em:=em) (eb:=eb) hel _ l[i] (Nat.lt_succ_self _) h4 _ hrom4 hb4 hE4 hkid (right_named _ (hnk i _ hpi))
   try simp -dsimp only [go_sem,e1,e3,e4,e6,e8]
   refine Dw_text (n:=68) [[],[],[],[2],[],[2,3,4],[2,3,4,5],[0,1,2,3,4,5,6],[0,1,2,3,4,5,6,7]] (by simp -dsimp only [go_sem,hn']) (by kernel_rfl) ?_
   simp -dsimp only [go_sem,e1,e3,e4,e6,e8,loads_own hG4,load_own hP4,loads_own hP4,ia50 hlt,loads_ro (n:=3) hrom4 hat' rfl,sameN_sliceA R.hs,sameN_sliceA hkid.same]
   refine ⟨_,h6,hs6,?_⟩
   simp -dsimp only [go_sem]
   have hx7:ExtS (Only tb) h2 h6:=hx5.trans hx6.toS
   cases hm:mayB (emf (nms G) em) l[i] with
   | false =>
     rw [hm,if_pos (by simp)] at hst
     simp -dsimp only [go_sem,hr]
     rw [estart2 true (decide_eq_true c2),←hst]
     exact ⟨hx0.toS.trans hx7,own_ext hx6 hT4⟩
   | true =>
     rw [hm,if_neg (by simp)] at hst
     simp -dsimp only [go_sem,e1,e3,e4,e6,e8,wrap64_succ hlt hlb]
     exact ⟨l.length - (i+1),by omega,i+1,_,hlt,rfl,hx7,own_ext hx6 hT4,by rw [startB_len];exact hbl',hst,rfl⟩
  ·have hi0:decide ((i:Int)<(l.length:Int))=false:=decide_eq_false (by omega)
   rw [List.drop_eq_nil_of_le (by omega),startL] at hst
   simp -dsimp only [go_sem,e6,e8,hi0,load_own hP',hr]
   rw [estart2 true (decide_eq_true c2),←hst]
   exact ⟨hx0.toS.trans hx,hT'⟩
 by_cases c3:d.data.toList=[111,114]
 ·simp -dsimp only [go_sem,decide_eq_false c1,decide_eq_false c2,decide_eq_true c3,hr]
  refine loop_go (n:=68) (by kernel_rfl) (fun m' a' h'=>∃(i:Nat) (bs':List Bool),i≤l.length∧m'=l.length - i∧ExtS (Only tb) h2 h'∧h'.own tb 4 (bs'.map .bool)∧bs'.length=G.length∧startL (emf (nms G) em) (idxOf (nms G)) false (l.drop i) bs'=startL (emf (nms G) em) (idxOf (nms G)) false l bs ∧
   a'.get 1=.slice (some ⟨eb,0,none⟩) G.length G.length∧a'.get 3=.slice (some ⟨tb,0,none⟩) G.length G.length∧a'.get 4=.pointer (some ⟨h.next,0,none⟩)∧a'.get 6=.pointer (some ⟨h.next+1,0,none⟩)∧a'.get 9=.int .i64 i) ?_ l.length _ _ (by simp -dsimp only [go_sem,hn]) ⟨0,bs,Nat.zero_le _,rfl,(Ext.refl _).toS,hT2,hbl,by rw [List.drop_zero],by simp -dsimp only [go_sem,g1],by simp -dsimp only [go_sem,g3],by simp -dsimp only [go_sem],by simp -dsimp only [go_sem],by simp -dsimp only [go_sem];rfl⟩
  rintro m' a' h' hn' ⟨i,bs',hi,rfl,hx,hT',hbl',hst,e1,e3,e4,e6,e8⟩
  have hrom':h'.rom=r:=ext_rom hx (hx0.rom.trans hrom)
  have hb':h'.base≤h'.next:=ext_bn hx hb2
  have hP':=own_extS hx hP hpt1
  have hG':=own_extS hx hG1 hpt
  have hE':=own_extS hx hE2 het
  by_cases hlt:i<l.length
  ·have hpi:l[i]? = some l[i]:=List.getElem?_eq_getElem hlt
   have hi1:decide ((i:Int)<(l.length:Int))=true:=decide_eq_true (Int.ofNat_lt.2 hlt)
   obtain ⟨Av1,c1',hcs⟩:=(hk i _ hpi).shape
   have hat':=hat i _ hpi
   have hkid:=hk i _ hpi
   rw [hcs] at hat' hkid
   have hAv:=hA (ne_nil hlt)
   subst hAv
   obtain ⟨_,h4,hs4,rfl,hx4,hT4⟩:=ih i _ hpi h' _ bs' hrom' hb' hE' hkid (hnk i _ hpi) hT' hbl'
   simp -dsimp only [go_sem,e1,e3,e4,e6,e8,hi1,load_own hP']
   refine Dw_text (n:=68) [[],[],[],[2],[],[2,3,4],[2,3,4,5],[],[0,1,2,3,4,5,6,7]] (by simp -dsimp only [go_sem,hn']) (by kernel_rfl) ?_
   simp -dsimp only [go_sem,e1,e3,e4,e6,e8,loads_own hG',load_own hP',loads_own hP',ia50 hlt,loads_ro (n:=3) hrom' hat' rfl,sameN_sliceA R.hs,sameN_sliceA hkid.same]
   refine ⟨_,h4,hs4,?_⟩
   rw [List.drop_eq_getElem_cons hlt,startL] at hst
   have hx5:ExtS (Only tb) h2 h4:=hx.trans hx4
   rw [Bool.false_and,if_neg (by simp)] at hst
   simp -dsimp only [go_sem,e1,e3,e4,e6,e8,wrap64_succ hlt hlb]
   exact ⟨l.length - (i+1),by omega,i+1,_,hlt,rfl,hx5,hT4,by rw [startB_len];exact hbl',hst,rfl⟩
  ·have hi0:decide ((i:Int)<(l.length:Int))=false:=decide_eq_false (by omega)
   rw [List.drop_eq_nil_of_le (by omega),startL] at hst
   simp -dsimp only [go_sem,e6,e8,hi0,load_own hP',hr]
   rw [estart2 false (decide_eq_false c2),←hst]
   exact ⟨hx0.toS.trans hx,hT'⟩
 by_cases c4:d.data.toList=[109,97,110,121]
 ·simp -dsimp only [go_sem,decide_eq_false c1,decide_eq_false c2,decide_eq_false c3,decide_eq_true c4,hr]
  refine loop_go (n:=68) (by kernel_rfl) (fun m' a' h'=>∃(i:Nat) (bs':List Bool),i≤l.length∧m'=l.length - i∧ExtS (Only tb) h2 h'∧h'.own tb 4 (bs'.map .bool)∧bs'.length=G.length∧startL (emf (nms G) em) (idxOf (nms G)) false (l.drop i) bs'=startL (emf (nms G) em) (idxOf (nms G)) false l bs ∧
   a'.get 1=.slice (some ⟨eb,0,none⟩) G.length G.length∧a'.get 3=.slice (some ⟨tb,0,none⟩) G.length G.length∧a'.get 4=.pointer (some ⟨h.next,0,none⟩)∧a'.get 6=.pointer (some ⟨h.next+1,0,none⟩)∧a'.get 9=.int .i64 i) ?_ l.length _ _ (by simp -dsimp only [go_sem,hn]) ⟨0,bs,Nat.zero_le _,rfl,(Ext.refl _).toS,hT2,hbl,by rw [List.drop_zero],by simp -dsimp only [go_sem,g1],by simp -dsimp only [go_sem,g3],by simp -dsimp only [go_sem],by simp -dsimp only [go_sem],by simp -dsimp only [go_sem];rfl⟩
  rintro m' a' h' hn' ⟨i,bs',hi,rfl,hx,hT',hbl',hst,e1,e3,e4,e6,e8⟩
  have hrom':h'.rom=r:=ext_rom hx (hx0.rom.trans hrom)
  have hb':h'.base≤h'.next:=ext_bn hx hb2
  have hP':=own_extS hx hP hpt1
  have hG':=own_extS hx hG1 hpt
  have hE':=own_extS hx hE2 het
  by_cases hlt:i<l.length
  ·have hpi:l[i]? = some l[i]:=List.getElem?_eq_getElem hlt
   have hi1:decide ((i:Int)<(l.length:Int))=true:=decide_eq_true (Int.ofNat_lt.2 hlt)
   obtain ⟨Av1,c1',hcs⟩:=(hk i _ hpi).shape
   have hat':=hat i _ hpi
   have hkid:=hk i _ hpi
   rw [hcs] at hat' hkid
   have hAv:=hA (ne_nil hlt)
   subst hAv
   obtain ⟨_,h4,hs4,rfl,hx4,hT4⟩:=ih i _ hpi h' _ bs' hrom' hb' hE' hkid (hnk i _ hpi) hT' hbl'
   simp -dsimp only [go_sem,e1,e3,e4,e6,e8,hi1,load_own hP']
   refine Dw_text (n:=68) [[],[],[],[2],[],[2,3,4],[2,3,4,5],[],[0,1,2,3,4,5,6,7]] (by simp -dsimp only [go_sem,hn']) (by kernel_rfl) ?_
   simp -dsimp only [go_sem,e1,e3,e4,e6,e8,loads_own hG',load_own hP',loads_own hP',ia50 hlt,loads_ro (n:=3) hrom' hat' rfl,sameN_sliceA R.hs,sameN_sliceA hkid.same]
   refine ⟨_,h4,hs4,?_⟩
   rw [List.drop_eq_getElem_cons hlt,startL] at hst
   have hx5:ExtS (Only tb) h2 h4:=hx.trans hx4
   rw [Bool.false_and,if_neg (by simp)] at hst
   simp -dsimp only [go_sem,e1,e3,e4,e6,e8,wrap64_succ hlt hlb]
   exact ⟨l.length - (i+1),by omega,i+1,_,hlt,rfl,hx5,hT4,by rw [startB_len];exact hbl',hst,rfl⟩
  ·have hi0:decide ((i:Int)<(l.length:Int))=false:=decide_eq_false (by omega)
   rw [List.drop_eq_nil_of_le (by omega),startL] at hst
   simp -dsimp only [go_sem,e6,e8,hi0,load_own hP',hr]
   rw [estart2 false (decide_eq_false c2),←hst]
   exact ⟨hx0.toS.trans hx,hT'⟩
 by_cases c5:d.data.toList=[111,112,116]
 ·simp -dsimp only [go_sem,decide_eq_false c1,decide_eq_false c2,decide_eq_false c3,decide_eq_false c4,decide_eq_true c5,hr]
  refine loop_go (n:=68) (by kernel_rfl) (fun m' a' h'=>∃(i:Nat) (bs':List Bool),i≤l.length∧m'=l.length - i∧ExtS (Only tb) h2 h'∧h'.own tb 4 (bs'.map .bool)∧bs'.length=G.length∧startL (emf (nms G) em) (idxOf (nms G)) false (l.drop i) bs'=startL (emf (nms G) em) (idxOf (nms G)) false l bs ∧
   a'.get 1=.slice (some ⟨eb,0,none⟩) G.length G.length∧a'.get 3=.slice (some ⟨tb,0,none⟩) G.length G.length∧a'.get 4=.pointer (some ⟨h.next,0,none⟩)∧a'.get 6=.pointer (some ⟨h.next+1,0,none⟩)∧a'.get 9=.int .i64 i) ?_ l.length _ _ (by simp -dsimp only [go_sem,hn]) ⟨0,bs,Nat.zero_le _,rfl,(Ext.refl _).toS,hT2,hbl,by rw [List.drop_zero],by simp -dsimp only [go_sem,g1],by simp -dsimp only [go_sem,g3],by simp -dsimp only [go_sem],by simp -dsimp only [go_sem],by simp -dsimp only [go_sem];rfl⟩
  rintro m' a' h' hn' ⟨i,bs',hi,rfl,hx,hT',hbl',hst,e1,e3,e4,e6,e8⟩
  have hrom':h'.rom=r:=ext_rom hx (hx0.rom.trans hrom)
  have hb':h'.base≤h'.next:=ext_bn hx hb2
  have hP':=own_extS hx hP hpt1
  have hG':=own_extS hx hG1 hpt
  have hE':=own_extS hx hE2 het
  by_cases hlt:i<l.length
  ·have hpi:l[i]? = some l[i]:=List.getElem?_eq_getElem hlt
   have hi1:decide ((i:Int)<(l.length:Int))=true:=decide_eq_true (Int.ofNat_lt.2 hlt)
   obtain ⟨Av1,c1',hcs⟩:=(hk i _ hpi).shape
   have hat':=hat i _ hpi
   have hkid:=hk i _ hpi
   rw [hcs] at hat' hkid
   have hAv:=hA (ne_nil hlt)
   subst hAv
   obtain ⟨_,h4,hs4,rfl,hx4,hT4⟩:=ih i _ hpi h' _ bs' hrom' hb' hE' hkid (hnk i _ hpi) hT' hbl'
   simp -dsimp only [go_sem,e1,e3,e4,e6,e8,hi1,load_own hP']
   refine Dw_text (n:=68) [[],[],[],[2],[],[2,3,4],[2,3,4,5],[],[0,1,2,3,4,5,6,7]] (by simp -dsimp only [go_sem,hn']) (by kernel_rfl) ?_
   simp -dsimp only [go_sem,e1,e3,e4,e6,e8,loads_own hG',load_own hP',loads_own hP',ia50 hlt,loads_ro (n:=3) hrom' hat' rfl,sameN_sliceA R.hs,sameN_sliceA hkid.same]
   refine ⟨_,h4,hs4,?_⟩
   rw [List.drop_eq_getElem_cons hlt,startL] at hst
   have hx5:ExtS (Only tb) h2 h4:=hx.trans hx4
   rw [Bool.false_and,if_neg (by simp)] at hst
   simp -dsimp only [go_sem,e1,e3,e4,e6,e8,wrap64_succ hlt hlb]
   exact ⟨l.length - (i+1),by omega,i+1,_,hlt,rfl,hx5,hT4,by rw [startB_len];exact hbl',hst,rfl⟩
  ·have hi0:decide ((i:Int)<(l.length:Int))=false:=decide_eq_false (by omega)
   rw [List.drop_eq_nil_of_le (by omega),startL] at hst
   simp -dsimp only [go_sem,e6,e8,hi0,load_own hP',hr]
   rw [estart2 false (decide_eq_false c2),←hst]
   exact ⟨hx0.toS.trans hx,hT'⟩
 by_cases c6:d.data.toList=[110,111,116]
 ·simp -dsimp only [go_sem,decide_eq_false c1,decide_eq_false c2,decide_eq_false c3,decide_eq_false c4,decide_eq_false c5,decide_eq_true c6,hr]
  refine loop_go (n:=68) (by kernel_rfl) (fun m' a' h'=>∃(i:Nat) (bs':List Bool),i≤l.length∧m'=l.length - i∧ExtS (Only tb) h2 h'∧h'.own tb 4 (bs'.map .bool)∧bs'.length=G.length∧startL (emf (nms G) em) (idxOf (nms G)) false (l.drop i) bs'=startL (emf (nms G) em) (idxOf (nms G)) false l bs ∧
   a'.get 1=.slice (some ⟨eb,0,none⟩) G.length G.length∧a'.get 3=.slice (some ⟨tb,0,none⟩) G.length G.length∧a'.get 4=.pointer (some ⟨h.next,0,none⟩)∧a'.get 6=.pointer (some ⟨h.next+1,0,none⟩)∧a'.get 9=.int .i64 i) ?_ l.length _ _ (by simp -dsimp only [go_sem,hn]) ⟨0,bs,Nat.zero_le _,rfl,(Ext.refl _).toS,hT2,hbl,by rw [List.drop_zero],by simp -dsimp only [go_sem,g1],by simp -dsimp only [go_sem,g3],by simp -dsimp only [go_sem],by simp -dsimp only [go_sem],by simp -dsimp only [go_sem];rfl⟩
  rintro m' a' h' hn' ⟨i,bs',hi,rfl,hx,hT',hbl',hst,e1,e3,e4,e6,e8⟩
  have hrom':h'.rom=r:=ext_rom hx (hx0.rom.trans hrom)
  have hb':h'.base≤h'.next:=ext_bn hx hb2
  have hP':=own_extS hx hP hpt1
  have hG':=own_extS hx hG1 hpt
  have hE':=own_extS hx hE2 het
  by_cases hlt:i<l.length
  ·have hpi:l[i]? = some l[i]:=List.getElem?_eq_getElem hlt
   have hi1:decide ((i:Int)<(l.length:Int))=true:=decide_eq_true (Int.ofNat_lt.2 hlt)
   obtain ⟨Av1,c1',hcs⟩:=(hk i _ hpi).shape
   have hat':=hat i _ hpi
   have hkid:=hk i _ hpi
   rw [hcs] at hat' hkid
   have hAv:=hA (ne_nil hlt)
   subst hAv
   obtain ⟨_,h4,hs4,rfl,hx4,hT4⟩:=ih i _ hpi h' _ bs' hrom' hb' hE' hkid (hnk i _ hpi) hT' hbl'
   simp -dsimp only [go_sem,e1,e3,e4,e6,e8,hi1,load_own hP']
   refine Dw_text (n:=68) [[],[],[],[2],[],[2,3,4],[2,3,4,5],[],[0,1,2,3,4,5,6,7]] (by simp -dsimp only [go_sem,hn']) (by kernel_rfl) ?_
   simp -dsimp only [go_sem,e1,e3,e4,e6,e8,loads_own hG',load_own hP',loads_own hP',ia50 hlt,loads_ro (n:=3) hrom' hat' rfl,sameN_sliceA R.hs,sameN_sliceA hkid.same]
   refine ⟨_,h4,hs4,?_⟩
   rw [List.drop_eq_getElem_cons hlt,startL] at hst
   have hx5:ExtS (Only tb) h2 h4:=hx.trans hx4
   rw [Bool.false_and,if_neg (by simp)] at hst
   simp -dsimp only [go_sem,e1,e3,e4,e6,e8,wrap64_succ hlt hlb]
   exact ⟨l.length - (i+1),by omega,i+1,_,hlt,rfl,hx5,hT4,by rw [startB_len];exact hbl',hst,rfl⟩
  ·have hi0:decide ((i:Int)<(l.length:Int))=false:=decide_eq_false (by omega)
   rw [List.drop_eq_nil_of_le (by omega),startL] at hst
   simp -dsimp only [go_sem,e6,e8,hi0,load_own hP',hr]
   rw [estart2 false (decide_eq_false c2),←hst]
   exact ⟨hx0.toS.trans hx,hT'⟩
 have hl0:l=[]:=List.length_eq_zero_iff.1 (kind_leaf hko c2 c3 c4 c5 c6)
 simp -dsimp only [go_sem,decide_eq_false c1,decide_eq_false c2,decide_eq_false c3,decide_eq_false c4,decide_eq_false c5,decide_eq_false c6,hr]
 rw [estart2 false (decide_eq_false c2),estart false hl0]
 exact ⟨hx0.toS,hT2⟩
end Go.Ev.G24
end
section
namespace Go.Ev.G24
open Go.RowKit Go.Proofs
variable {r:Ro}
def Idle2C (r:Ro) (G:List Rule) (Gv:Option Addr) (gc eb:Nat) (em:List Bool) (p:Part):Prop:=∀(h:Hp) (cs:List Value),h.rom=r→h.base≤h.next→h.own eb 4 (em.map .bool)→RoPart r p cs→named (nms G) p →
 ∃v h1,Snd Try.prog 60 [.agg #[.slice Gv G.length gc],.slice (some ⟨eb,0,none⟩) G.length G.length,.agg cs.toArray] h v h1∧v=.bool (idleB (emf (nms G) em) p)∧Ext h h1
set_option maxHeartbeats 4000000 in
set_option maxRecDepth 10000 in
theorem idle2_loop {G:List Rule} {Gv:Option Addr} {gc gb go eb:Nat} {gcss:Nat→List Value} (R:RoRules r G Gv gc gb go gcss) {em:List Bool} {d t:ByteArray} {l:List Part} {Av:Option Addr} {c b o gp pb:Nat} {css:Nat→List Value} (ih:∀(i:Nat) (p:Part),l[i]? = some p→Idle2C r G Gv gc eb em p) (hnk:∀(i:Nat) (p:Part),l[i]? = some p→named (nms G) p)
  (hlb:l.length≤9223372036854775807) (hA:l≠[]→Av=some ⟨b,o,none⟩) (hat:∀(i:Nat) (p:Part),l[i]? = some p→roAt r b (o+i*3) (css i)) (hk:∀(i:Nat) (p:Part),l[i]? = some p→RoPart r p (css i))
  {a:Ev.A} {h1:Hp} {Q:Ex→Ev.A→Hp→Prop} (hn:a.n=35) (hrom:h1.rom=r) (hb1:h1.base≤h1.next) (hE:h1.own eb 4 (em.map .bool)) (hG:h1.own gp 24 [.slice Gv G.length gc]) (hP:h1.own pb 52 [.string d,.string t,.slice Av l.length c])
  (g1:a.get 1=.slice (some ⟨eb,0,none⟩) G.length G.length) (g3:a.get 3=.pointer (some ⟨gp,0,none⟩)) (g5:a.get 5=.pointer (some ⟨pb,0,none⟩)) (g7:a.get 7=.int .i64 0)
  (hq0:∀a1 h2,Ext h1 h2→idleL (emf (nms G) em) l=false→Q (.exit 0) a1 h2) (hq1:∀a1 h2,Ext h1 h2→idleL (emf (nms G) em) l=true→a1.get 6=.bool true→Q .ret a1 h2):Th Try.prog (bodyAt Try.f60 [1,1,0,1,0]) a h1 Q ⟨⟩ ⟨⟩:=by
 simp only [bodyAt,nav,Try.f60]
 refine loop_go (n:=35) (by kernel_rfl) (fun m' a' h'=>∃i:Nat,i≤l.length∧m'=l.length - i∧Ext h1 h'∧(∀(j:Nat) (p:Part),j<i→l[j]? = some p→idleB (emf (nms G) em) p=false) ∧
  a'.get 1=.slice (some ⟨eb,0,none⟩) G.length G.length∧a'.get 3=.pointer (some ⟨gp,0,none⟩)∧a'.get 5=.pointer (some ⟨pb,0,none⟩)∧a'.get 7=.int .i64 i) ?_ l.length _ _ hn ⟨0,Nat.zero_le _,rfl,Ext.refl _,fun j p hj=>absurd hj (Nat.not_lt_zero _),g1,g3,g5,g7⟩
 rintro m' a' h' hn' ⟨i,hi,rfl,hx,hall,e1,e3,e5,e7⟩
 have hrom':h'.rom=r:=hx.rom.trans hrom
 have hb':h'.base≤h'.next:=by rw [hx.base];exact Nat.le_trans hb1 hx.next
 have hP':=own_ext hx hP
 have hG':=own_ext hx hG
 by_cases hlt:i<l.length
 ·have hpi:l[i]? = some l[i]:=List.getElem?_eq_getElem hlt
  have hi1:decide ((i:Int)<(l.length:Int))=true:=decide_eq_true (Int.ofNat_lt.2 hlt)
  obtain ⟨Av1,c1',hcs⟩:=(hk i _ hpi).shape
  have hat':=hat i _ hpi
  have hkid:=hk i _ hpi
  rw [hcs] at hat' hkid
  have hAv:=hA (ne_nil hlt)
  subst hAv
  obtain ⟨_,h4,hs4,rfl,hx4⟩:=ih i _ hpi h' _ hrom' hb' (own_ext hx hE) hkid (hnk i _ hpi)
  simp -dsimp only [go_sem,e1,e3,e5,e7,hi1,load_own hP']
  refine Dw_text (n:=35) [[],[],[],[2],[],[2,3,4],[2,3,4,5],[0,1,2,3,4,5,6]] (by simp -dsimp only [go_sem,hn']) (by kernel_rfl) ?_
  simp -dsimp only [go_sem,e1,e3,e5,e7,loads_own hG',load_own hP',loads_own hP',ia50 hlt,loads_ro (n:=3) hrom' hat' rfl,sameN_sliceA R.hs,sameN_sliceA hkid.same]
  refine ⟨_,h4,hs4,?_⟩
  simp -dsimp only [go_sem]
  cases hm:idleB (emf (nms G) em) l[i] with
  | true =>
    simp -dsimp only [go_sem]
    refine hq1 _ _ (hx.trans hx4) ?_ (by simp -dsimp only [go_sem])
    cases hq:idleL (emf (nms G) em) l with
    | true=>rfl
    | false=>rw [(idleL_iff _ l).1 hq i _ hpi] at hm;cases hm
  | false =>
    simp -dsimp only [go_sem,e1,e3,e5,e7,wrap64_succ hlt hlb]
    refine ⟨l.length - (i+1),by omega,i+1,hlt,rfl,hx.trans hx4,fun j p hj hp => ?_,rfl⟩
    rcases Nat.lt_succ_iff_lt_or_eq.1 hj with h|h
    ·exact hall j p h hp
    ·subst h;rw [hpi] at hp;injection hp with hp;subst hp;exact hm
 ·have hi0:decide ((i:Int)<(l.length:Int))=false:=decide_eq_false (by omega)
  simp -dsimp only [go_sem,e5,e7,hi0,load_own hP']
  exact hq0 _ _ hx ((idleL_iff _ l).2 fun j p hp=>hall j p (by have:=(List.getElem?_eq_some_iff.1 hp).1;omega) hp)
set_option maxHeartbeats 4000000 in
set_option maxRecDepth 10000 in
theorem idle2_c {G:List Rule} {Gv:Option Addr} {gc gb go eb:Nat} {gcss:Nat→List Value} (R:RoRules r G Gv gc gb go gcss) {em:List Bool} (hel:em.length=G.length):∀(n:Nat) (p:Part),SizeOf.sizeOf p<n→Idle2C r G Gv gc eb em p:=by
 intro n
 induction n with
 | zero=>exact fun p hp=>absurd hp (Nat.not_lt_zero _)
 | succ n ihn =>
 rintro ⟨d,t,l⟩ hn h cs hrom hb hE hp hnm
 have ih:∀(i:Nat) (p:Part),l[i]? = some p→Idle2C r G Gv gc eb em p:=fun i p hp=>ihn p (by
  have:=List.sizeOf_lt_of_mem (List.mem_of_getElem? hp)
  simp only [Part.mk.sizeOf_spec] at hn
  omega)
 have hnk:∀(i:Nat) (p:Part),l[i]? = some p→named (nms G) p:=namedL_get hnm.2.2
 have hGl:(nms G).length=G.length:=by simp [nms]
 cases hp with
 | mk _ _ _ Av c b o css hc hlb hA hat hk hs =>
 refine snd_go wf Try.func60 rfl rfl (n:=35) rfl (by kernel_rfl) rfl ?_
 intro a hn hg
 have hr:Try.f60.results.toList=[.tmp 6]:=rfl
 have g0:=hg 0
 have g1:=hg 1
 have g2:=hg 2
 clear hg
 simp only [List.getElem?_cons_zero,List.getElem?_cons_succ] at g0 g1 g2
 have hG:=own_new hb 24 [.slice Gv G.length gc]
 have hxg:=Ext.new h (CObj.cells ⟨[.slice Gv G.length gc],24,0,0,false⟩)
 have hbg:=Nat.le_succ_of_le (m:=h.next) hb
 have hP:=own_new (h:=h.newH (CObj.cells ⟨[.slice Gv G.length gc],24,0,0,false⟩)) hbg 52 [.string d,.string t,.slice Av l.length c]
 have hG1:=own_newH hG (CObj.cells ⟨[.string d,.string t,.slice Av l.length c],52,0,0,false⟩)
 have hx0:=hxg.trans (Ext.new _ (CObj.cells ⟨[.string d,.string t,.slice Av l.length c],52,0,0,false⟩))
 simp -dsimp only [go_sem,g0,g1,g2,next_newH]
 simp only [next_newH] at hP
 generalize (h.newH (CObj.cells ⟨[.slice Gv G.length gc],24,0,0,false⟩)).newH (CObj.cells ⟨[.string d,.string t,.slice Av l.length c],52,0,0,false⟩)=h2 at hP hG1 hx0 ⊢
 have hb2:h2.base≤h2.next:=by rw [hx0.base];exact Nat.le_trans hb hx0.next
 have hrom2:h2.rom=r:=hx0.rom.trans hrom
 have hE2:=own_ext hx0 hE
 have e:idleB (emf (nms G) em) ⟨d,t,l⟩=((decide (d.data.toList=[109,97,110,121])&&mayHead (emf (nms G) em) l)||idleL (emf (nms G) em) l):=by unfold idleB;rfl
 refine Dw_text (n:=35) [[],[0],[0,1],[0,1,2],[0,1,2,3],[0,1,2,3],[0,1,2,3],[0,1,2,3,6],[0,1,2,3,6,7],[0,1,2,3,6,7,8],[0,1,2,3,4,5,6,7,8,9],[0,1,2,3,4,5,6,7,8,9,10]] (by simp -dsimp only [go_sem,hn]) (by kernel_rfl) ?_
 by_cases c1:d.data.toList=[109,97,110,121]
 ·have k1:decide (d.data.toList=[109,97,110,121])=true:=decide_eq_true c1
  have hl1:l.length=1:=hnm.2.1 (.inl c1)
  have hlt:0<l.length:=by omega
  have hpi:l[0]? = some l[0]:=List.getElem?_eq_getElem hlt
  obtain ⟨Av1,c1',hcs⟩:=(hk 0 _ hpi).shape
  have hat':=hat 0 _ hpi
  have hkid:=hk 0 _ hpi
  rw [hcs] at hat' hkid
  rw [Nat.zero_mul,Nat.add_zero] at hat'
  have hAv:=hA (ne_nil hlt)
  subst hAv
  have hix:indexAddr' Try.prog 50 (.slice (some ⟨b,o,none⟩) l.length c) (.int .i64 0)=some (.pointer (some ⟨b,o,none⟩)):=by
   have:=ia50 (b:=b) (o:=o) (c:=c) (n:=l.length) hlt
   simpa using this
  obtain ⟨_,h4,hs4,rfl,hx4⟩:=empty_c R (em:=em) (eb:=eb) hel _ l[0] (Nat.lt_succ_self _) h2 _ hrom2 hb2 hE2 hkid (hnk 0 _ hpi)
  simp -dsimp only [go_sem,undef',g1,load_own hP,loads_own hG1,loads_own hP,k1,hix,loads_ro (n:=3) hrom2 hat' rfl,sameN_sliceA R.hs,sameN_sliceA hkid.same]
  refine ⟨_,h4,hs4,?_⟩
  have hmh:mayHead (emf (nms G) em) l=mayB (emf (nms G) em) l[0]:=by
   match l,hlt with
   | x::l,_=>rfl
  simp -dsimp only [go_sem,undef']
  cases hm:mayB (emf (nms G) em) l[0] with
  | true =>
    simp -dsimp only [go_sem,hr,e,k1,hmh,hm,Bool.true_and,Bool.true_or]
    exact hx0.trans hx4
  | false =>
    simp -dsimp only [go_sem,undef']
    refine idle2_loop R (d:=d) (t:=t) (l:=l) (c:=c) (gp:=h.next) (pb:=h.next+1) (eb:=eb) (em:=em) ih hnk hlb hA hat hk (by simp -dsimp only [go_sem,hn]) (hx4.rom.trans hrom2) (by rw [hx4.base];exact Nat.le_trans hb2 hx4.next) (own_ext hx4 hE2) (own_ext hx4 hG1) (own_ext hx4 hP) (by simp -dsimp only [go_sem,g1]) (by simp -dsimp only [go_sem]) (by simp -dsimp only [go_sem]) (by simp -dsimp only [go_sem]) (fun a1 h3 hx3 hf => ?_) (fun a1 h3 hx3 hf h4 => ?_)
    ·simp -dsimp only [go_sem,hr,e,k1,hmh,hm,hf,Bool.true_and,Bool.false_or]
     exact (hx0.trans hx4).trans hx3
    ·simp -dsimp only [go_sem,hr,e,k1,hmh,hm,hf,h4,Bool.true_and,Bool.false_or]
     exact (hx0.trans hx4).trans hx3
 ·have k1:decide (d.data.toList=[109,97,110,121])=false:=decide_eq_false c1
  simp -dsimp only [go_sem,undef',g1,load_own hP,k1]
  refine idle2_loop R (d:=d) (t:=t) (l:=l) (c:=c) (gp:=h.next) (pb:=h.next+1) (eb:=eb) (em:=em) ih hnk hlb hA hat hk (by simp -dsimp only [go_sem,hn]) hrom2 hb2 hE2 hG1 hP (by simp -dsimp only [go_sem,g1]) (by simp -dsimp only [go_sem]) (by simp -dsimp only [go_sem]) (by simp -dsimp only [go_sem]) (fun a1 h3 hx3 hf => ?_) (fun a1 h3 hx3 hf h4 => ?_)
  ·simp -dsimp only [go_sem,hr,e,k1,hf,Bool.false_and,Bool.false_or]
   exact hx0.trans hx3
  ·simp -dsimp only [go_sem,hr,e,k1,hf,h4,Bool.false_and,Bool.false_or]
   exact hx0.trans hx3
end Go.Ev.G24
end
section
namespace Go.Ev.G24
open Go.RowKit Go.Proofs
variable {h h1 h2:Hp} {e:TypeId}
structure RowE (e:TypeId) (h:Hp) (b:Nat) (cs:List Value) (f:Nat):Prop where
 lo:h.base≤b
 lt:b<h.next
 row:∃bs g,h.row b=some ⟨cs,e,f,bs,g⟩
 fl:f≠0→f<h.nfam
theorem rowE_loads {b o n:Nat} {cs:List Value} {f:Nat} (k:RowE e h b cs f):h.loads ⟨b,o,none⟩ n=takeN (cs.drop o) n:=by
 obtain ⟨bs,g,hr⟩:=k.row
 cases n with
 | zero=>simp [Hp.loads,takeN]
 | succ n=>simp only [Hp.loads,blt_false k.lo,hr]
theorem rowE_load {b o:Nat} {cs:List Value} {f:Nat} (k:RowE e h b cs f):h.load ⟨b,o,none⟩=cs[o]? := by
 obtain ⟨bs,g,hr⟩:=k.row
 simp only [Hp.load,blt_false k.lo,hr]
theorem rowE_keep {S:Nat→Prop} (x:ExtS S h h1) {b:Nat} {cs:List Value} {f:Nat} (k:RowE e h b cs f) (hb:¬S b):RowE e h1 b cs f:=by
 refine ⟨by rw [x.base];exact k.lo,Nat.lt_of_lt_of_le k.lt x.next,?_,fun e=>Nat.lt_of_lt_of_le (k.fl e) x.nfam⟩
 obtain ⟨bs,g,hr⟩:=k.row
 refine ⟨bs,g,?_⟩
 unfold Hp.row at hr ⊢
 rw [x.objs b k.lt hb]
 cases hg:h.objs.get b with
 | none=>rw [hg] at hr;cases hr
 | some ob =>
   rw [hg] at hr
   cases ob with
   | cells r =>
     simp only at hr ⊢
     cases hf:r.fam with
     | zero=>rw [hf] at hr;exact hr
     | succ q =>
       rw [hf] at hr
       simp only at hr ⊢
       have hrf:r=⟨cs,e,f,bs,g⟩:=by
        split at hr
        ·split at hr
         ·injection hr
         ·cases hr
        ·cases hr
       have hfq:f=q+1:=by rw [←hf,hrf]
       rw [x.fams (q+1) (by rw [←hfq];exact k.fl (by omega))]
       exact hr
   | map es k=>cases hr
   | sIter s p=>cases hr
   | mIter a b c d=>cases hr
theorem rowE_obj {b:Nat} {cs:List Value} {f:Nat} (k:RowE e h b cs f):∃r,h.objs.get b=some (.cells r)∧r.e=e:=by
 obtain ⟨bs,g,hr⟩:=k.row
 unfold Hp.row at hr
 cases hg:h.objs.get b with
 | none=>rw [hg] at hr;cases hr
 | some ob =>
   rw [hg] at hr
   cases ob with
   | cells r =>
     refine ⟨r,rfl,?_⟩
     simp only at hr
     split at hr
     ·injection hr with hr;rw [hr]
     ·split at hr
      ·split at hr
       ·injection hr with hr;rw [hr]
       ·cases hr
      ·cases hr
   | map es k=>cases hr
   | sIter s p=>cases hr
   | mIter a b c d=>cases hr
theorem rowE_ne {b b':Nat} {cs c':List Value} {f:Nat} {e':TypeId} (k:RowE e h b cs f) (o:h.own b' e' c') (hne:e'≠e):b'≠b:=by
 rintro rfl
 obtain ⟨r,h1,h2⟩:=rowE_obj k
 rw [o.2.2] at h1
 injection h1 with h1
 injection h1 with h1
 rw [←h1] at h2
 exact hne h2
theorem takeN_all:∀(l:List Value),takeN l l.length=some l
 | []=>rfl
 | v::l=>by simp only [List.length_cons,takeN,takeN_all l]
def OwnE (e:TypeId) (h:Hp) (n0 f0:Nat) (cs:List Value) (v:Value):Prop:=(cs=[]∧v=.slice none 0 0) ∨
 ∃b f,cs≠[]∧v=.slice (some ⟨b,0,none⟩) cs.length cs.length∧RowE e h b cs f∧n0≤b∧(f≠0→f0≤f)
theorem OwnE.ext (x:Ext h h1) {n0 f0:Nat} {cs:List Value} {v:Value} (k:OwnE e h n0 f0 cs v):OwnE e h1 n0 f0 cs v:=by
 rcases k with ⟨rfl,rfl⟩|⟨b,f,hl,rfl,hr,hb,hf⟩
 ·exact .inl ⟨rfl,rfl⟩
 ·exact .inr ⟨b,f,hl,rfl,rowE_keep (x.toS (S:=fun _=>False)) hr (fun c=>c),hb,hf⟩
theorem OwnE.len {n0 f0:Nat} {cs:List Value} {v:Value} (k:OwnE e h n0 f0 cs v):∃A,v=.slice A cs.length cs.length:=by
 rcases k with ⟨rfl,rfl⟩|⟨b,f,hl,rfl,_⟩<;>exact ⟨_,rfl⟩
set_option maxRecDepth 10000 in
theorem ownE_append {t:TypeId} {z x:Value} (hu:Try.prog.underlying t=some (.slice e)) (hs:sizeOf' Try.prog e=some 1) (hz:zero' Try.prog e=some z) (hzl:Nat.beq z.cells.toList.length 1=true∧0<1)
  (hby:(match Try.prog.info? e with|some i=>Nat.ble i.bytes 100000&&Nat.blt 0 i.bytes|none=>false)=true) (hni:noInt Try.prog [t]=true) (hx1:oneCell x=true)
  {n0 f0:Nat} {cs:List Value} {v:Value} (k:OwnE e h n0 f0 cs v) {wb:Nat} (hw:h.own wb e [x]) (hb:h.base≤h.next) (hn0:n0≤h.next) (hf0:f0≤h.nfam) (hsz:cs.length≤100000) :
  ∃v' h',append' Try.prog h [t,t] [v,.slice (some ⟨wb,0,none⟩) 1 1]=some (v',h')∧OwnE e h' n0 f0 (cs++[x]) v'∧(∀(S:Nat→Prop) (h0:Hp),ExtS S h0 h→h0.next≤n0→h0.nfam≤f0→ExtS S h0 h') ∧
   (∀b' e' c',e'≠e→h.own b' e' c'→h'.own b' e' c')∧h.next≤h'.next:=by
 have hf1:first' h 1 1 (.slice (some ⟨wb,0,none⟩) 1 1)=some [x]:=by
  simp only [first',loads_own hw]
  rfl
 rcases k with ⟨rfl,rfl⟩|⟨b,f,hl,rfl,hr,hb0,hf⟩
 ·have hx:=Ext.new h (CObj.cells { c:=[x],e:=e,fam:=0,base:=0,grown:=true })
  refine ⟨.slice (some ⟨h.next,0,none⟩) 1 1,h.newH (CObj.cells { c:=[x],e:=e,fam:=0,base:=0,grown:=true }),?_,?_,fun S h0 q _ _=>q.trans hx.toS,fun b' e' c' _ o=>own_ext hx o,hx.next⟩
  ·rw [append_of hu hs hz hzl hby h (len:=0) (cap:=0) (n:=1) rfl hf1 (by decide) (Nat.le_refl _) (by simp [hx1]) rfl hni]
   have:Nat.ble (0+1) 0=false:=rfl
   simp only [apd,this,Hp.grownRow,new_eq]
  ·refine .inr ⟨h.next,0,by simp,rfl,⟨hb,Nat.lt_succ_self _,⟨0,true,?_⟩,fun e=>absurd rfl e⟩,hn0,fun e=>absurd rfl e⟩
   simp only [Hp.row,get_newH,if_true,List.nil_append]
 ·have hlen:0<cs.length:=List.length_pos_iff.2 hl
  obtain ⟨bs,g,hrow⟩:=hr.row
  have hld:h.loads ⟨b,0,none⟩ (cs.length*1)=some cs:=by
   rw [rowE_loads hr,List.drop_zero,Nat.mul_one]
   exact takeN_all _
  have hc:Nat.ble (cs.length+1) cs.length=false:=ble_false (by omega)
  have hbeq:Nat.beq e e=true:=by simp
  have happ:append' Try.prog h [t,t] [.slice (some ⟨b,0,none⟩) cs.length cs.length,.slice (some ⟨wb,0,none⟩) 1 1]=apd h e 1 (some ⟨b,0,none⟩) cs.length cs.length 1 [x] :=
   append_of hu hs hz hzl hby h rfl hf1 (by omega) (Nat.le_refl _) (by simp [hx1]) rfl hni
  have fin:∀(f':Nat) (h':Hp),apd h e 1 (some ⟨b,0,none⟩) cs.length cs.length 1 [x]=some (.slice (some ⟨h.next,0,none⟩) (cs.length+1) (cs.length+1),h')→RowE e h' h.next (cs++[x]) f'→(f'=f∧f≠0∨f'=h.nfam)→h'.base=h.base→h'.ro=h.ro→h'.next=h.next+1→h.nfam≤h'.nfam→(∀y,y<h.next→y≠b→h'.objs.get y=h.objs.get y)→(∀q,q<h.nfam→¬(q=f∧f≠0)→h'.fams.get q=h.fams.get q) →
    ∃v' h',append' Try.prog h [t,t] [.slice (some ⟨b,0,none⟩) cs.length cs.length,.slice (some ⟨wb,0,none⟩) 1 1]=some (v',h')∧OwnE e h' n0 f0 (cs++[x]) v'∧(∀(S:Nat→Prop) (h0:Hp),ExtS S h0 h→h0.next≤n0→h0.nfam≤f0→ExtS S h0 h')∧(∀b' e' c',e'≠e→h.own b' e' c'→h'.own b' e' c')∧h.next≤h'.next:=by
   intro f' h' a1 a2 a3 e1 e2 e3 e4 e5 e6
   have hf':f'≠0→f0≤f':=by
    intro c
    rcases a3 with ⟨rfl,q⟩|rfl
    ·exact hf q
    ·exact hf0
   refine ⟨_,h',by rw [happ,a1],.inr ⟨h.next,f',by simp,by simp,a2,hn0,hf'⟩,fun S h0 q q1 q2=>grow_extS q (Nat.le_trans q1 hb0) (fun c=>Nat.le_trans q2 (hf c)) e1 e2 e3 e4 e5 e6,fun b' e' c' hne o => ?_,by omega⟩
   have hbb:=rowE_ne hr o hne
   exact ⟨by rw [e1];exact o.1,by have:=o.2.1;omega,by rw [e5 b' o.2.1 hbb];exact o.2.2⟩
  cases hfe:f with
  | zero =>
    subst hfe
    refine fin h.nfam { h with
     objs:=(h.objs.put b (.cells ⟨cs,e,h.nfam,bs,g⟩)).put h.next (.cells ⟨cs++[x],e,h.nfam,bs+0,true⟩)
     next:=h.next+1
     fams:=h.fams.put h.nfam (⟨h.next,bs+0,bs+0+(cs++[x]).length⟩::stays b bs (bs+cs.length) (bs+0+cs.length*1))
     nfam:=h.nfam+1 } ?_ ?_ (.inr rfl) rfl rfl rfl (Nat.le_succ _) ?_ ?_
    ·simp only [apd,hc,hrow,hld,grow',hbeq]
    ·refine ⟨by have:=hr.lo;have:=hr.lt;show h.base≤h.next;omega,Nat.lt_succ_self _,⟨bs+0,true,?_⟩,fun _=>Nat.lt_succ_self _⟩
     simp only [Hp.row,Tr.get_put,if_true]
     cases hnf:h.nfam with
     | zero=>rfl
     | succ q=>simp only [Tr.get_put,if_true,List.any_cons,beq_nat,Bool.true_or]
    ·intro x hx hxb
     simp only [Tr.get_put,if_neg (Nat.ne_of_lt hx),if_neg hxb]
    ·intro q hq _
     simp only [Tr.get_put,if_neg (Nat.ne_of_lt hq)]
  | succ q0 =>
    subst hfe
    have hfm:∃l,h.fams.get (q0+1)=some l:=by
     have hrow2:=hrow
     unfold Hp.row at hrow2
     split at hrow2
     ·rename_i r hg
      split at hrow2
      ·rename_i e0
       injection hrow2 with hrow2
       rw [hrow2] at e0
       cases e0
      ·rename_i f0' e0
       split at hrow2
       ·rename_i l hl0
        split at hrow2
        ·injection hrow2 with hrow2
         rw [hrow2] at e0
         have e1:q0+1=f0'+1:=e0
         exact ⟨l,by rw [e1];exact hl0⟩
        ·cases hrow2
       ·cases hrow2
     ·cases hrow2
    obtain ⟨l,hl0⟩:=hfm
    refine fin (q0+1) { h with
     objs:=h.objs.put h.next (.cells ⟨cs++[x],e,q0+1,bs+0,true⟩)
     next:=h.next+1
     fams:=h.fams.put (q0+1) (⟨h.next,bs+0,bs+0+(cs++[x]).length⟩::l.filter fun m=>Nat.ble m.hi (bs+0+cs.length*1)) } ?_ ?_ (.inl ⟨rfl,by omega⟩) rfl rfl rfl (Nat.le_refl _) ?_ ?_
    ·simp only [apd,hc,hrow,hld,grow',hbeq,hl0]
    ·refine ⟨by have:=hr.lo;have:=hr.lt;show h.base≤h.next;omega,Nat.lt_succ_self _,⟨bs+0,true,?_⟩,fun e=>hr.fl e⟩
     simp only [Hp.row,Tr.get_put,if_true,List.any_cons,beq_nat,Bool.true_or]
    ·intro x hx _
     simp only [Tr.get_put,if_neg (Nat.ne_of_lt hx)]
    ·intro q hq hqf
     have:¬q=q0+1:=fun e=>hqf ⟨e,by omega⟩
     simp only [Tr.get_put,if_neg this]
theorem app108 {v x:Value} {wb n0 f0:Nat} {cs:List Value} (hx1:oneCell x=true) (k:OwnE 105 h n0 f0 cs v) (hw:h.own wb 105 [x]) (hb:h.base≤h.next) (hn0:n0≤h.next) (hf0:f0≤h.nfam) (hsz:cs.length≤100000) :
  ∃v' h',append' Try.prog h [108,108] [v,.slice (some ⟨wb,0,none⟩) 1 1]=some (v',h')∧OwnE 105 h' n0 f0 (cs++[x]) v'∧(∀(S:Nat→Prop) (h0:Hp),ExtS S h0 h→h0.next≤n0→h0.nfam≤f0→ExtS S h0 h') ∧
   (∀b' e' c',e'≠105→h.own b' e' c'→h'.own b' e' c')∧h.next≤h'.next :=
 ownE_append (e:=105) (t:=108) Try.underlying108 sz105 z105 (by exact ⟨rfl,by decide⟩) (by kernel_rfl) (by kernel_rfl) hx1 k hw hb hn0 hf0 hsz
theorem app25 {v x:Value} {wb n0 f0:Nat} {cs:List Value} (hx1:oneCell x=true) (k:OwnE 9 h n0 f0 cs v) (hw:h.own wb 9 [x]) (hb:h.base≤h.next) (hn0:n0≤h.next) (hf0:f0≤h.nfam) (hsz:cs.length≤100000) :
  ∃v' h',append' Try.prog h [25,25] [v,.slice (some ⟨wb,0,none⟩) 1 1]=some (v',h')∧OwnE 9 h' n0 f0 (cs++[x]) v'∧(∀(S:Nat→Prop) (h0:Hp),ExtS S h0 h→h0.next≤n0→h0.nfam≤f0→ExtS S h0 h') ∧
   (∀b' e' c',e'≠9→h.own b' e' c'→h'.own b' e' c')∧h.next≤h'.next :=
 ownE_append (e:=9) (t:=25) Try.underlying25 sz9 z9 (by exact ⟨rfl,by decide⟩) (by kernel_rfl) (by kernel_rfl) hx1 k hw hb hn0 hf0 hsz
end Go.Ev.G24
end
section
namespace Go.Ev.G24
open Go.RowKit Go.Proofs
variable {r:Ro} {h:Hp} {n0 tb n f:Nat} {bs:List Nat} {M:List (List Bool)}
structure MatR (h:Hp) (n0 tb n f:Nat) (bs:List Nat) (M:List (List Bool)):Prop where
 row:RowE 105 h tb (bs.map fun b=>.slice (some ⟨b,0,none⟩) n n) f
 lb:bs.length=n
 lM:M.length=n
 rows:∀(i b:Nat) (L:List Bool),bs[i]? = some b→M[i]? = some L→h.own b 4 (L.map .bool)∧L.length=n
 dis:∀i j b:Nat,bs[i]? = some b→bs[j]? = some b→i=j
 lo:n0≤tb∧∀i b:Nat,bs[i]? = some b→n0≤b
theorem MatR.at (k:MatR h n0 tb n f bs M) {i:Nat} (hi:i<n):∃b L,bs[i]? = some b∧M[i]? = some L∧h.own b 4 (L.map .bool)∧L.length=n∧h.load ⟨tb,i,none⟩=some (.slice (some ⟨b,0,none⟩) n n)∧∀j,j<n→h.load ⟨b,j,none⟩=some (.bool (getM M i j)):=by
 have hib:i<bs.length:=by rw [k.lb];exact hi
 have hiM:i<M.length:=by rw [k.lM];exact hi
 have h1:bs[i]? = some bs[i]:=List.getElem?_eq_getElem hib
 have h2:M[i]? = some M[i]:=List.getElem?_eq_getElem hiM
 obtain ⟨q1,q2⟩:=k.rows i _ _ h1 h2
 refine ⟨_,_,h1,h2,q1,q2,?_,?_⟩
 ·rw [rowE_load k.row,List.getElem?_map,h1];rfl
 ·intro j hj
  rw [load_own q1,List.getElem?_map,List.getElem?_eq_getElem (by rw [q2];exact hj)]
  simp only [getM,List.getD,h2,Option.getD_some,Option.map_some]
  rw [List.getElem?_eq_getElem (by rw [q2];exact hj)]
  rfl
theorem MatR.ext {h1:Hp} (x:Ext h h1) (k:MatR h n0 tb n f bs M):MatR h1 n0 tb n f bs M:=⟨rowE_keep (x.toS (S:=fun _=>False)) k.row (fun c=>c),k.lb,k.lM,fun i b L h1 h2=>⟨own_ext x (k.rows i b L h1 h2).1,(k.rows i b L h1 h2).2⟩,k.dis,k.lo⟩
theorem MatR.put (k:MatR h n0 tb n f bs M) {i j b:Nat} {L:List Bool} (h1:bs[i]? = some b) (h2:M[i]? = some L) (hj:j<n) (v:Bool) :
  h.stores ⟨b,j,none⟩ [.bool v]=some (h.put b (.cells ⟨(L.set j v).map .bool,4,0,0,false⟩))∧MatR (h.put b (.cells ⟨(L.set j v).map .bool,4,0,0,false⟩)) n0 tb n f bs (setM M i j v):=by
 obtain ⟨q1,q2⟩:=k.rows i _ _ h1 h2
 have ht:b≠tb:=rowE_ne k.row q1 (by decide)
 have hi:i<M.length:=by
  rcases Nat.lt_or_ge i M.length with h|h
  ·exact h
  ·rw [List.getElem?_eq_none h] at h2;cases h2
 have hg:M.getD i []=L:=by simp [List.getD,h2]
 refine ⟨stores_own q1 rfl (bool_put v (by rw [q2];exact hj)) (by simp),rowE_keep (S:=Only b) (((Ext.refl h).toS (S:=Only b)).put (b:=b) (.inr rfl) _) k.row (fun c=>ht c.symm),k.lb,by simp [setM,k.lM],?_,k.dis,k.lo⟩
 intro i' b' L' hb' hL'
 simp only [setM,hg,List.getElem?_set] at hL'
 by_cases e:i=i'
 ·subst e
  rw [h1] at hb'
  injection hb' with hb'
  subst hb'
  rw [if_pos rfl,if_pos hi] at hL'
  injection hL' with hL'
  subst hL'
  exact ⟨own_put_same q1 _,by simp [q2]⟩
 ·rw [if_neg e] at hL'
  obtain ⟨p1,p2⟩:=k.rows i' _ _ hb' hL'
  refine ⟨own_put p1 ?_ _,p2⟩
  intro e2
  subst e2
  exact e (k.dis _ _ _ h1 hb')
theorem setM_same (M:List (List Bool)) (i j:Nat):setM M i j (getM M i j)=M:=by
 unfold setM getM
 apply List.ext_getElem?
 intro q
 rw [List.getElem?_set]
 split
 ·rename_i e
  subst e
  split
  ·rename_i hq
   rw [List.getElem?_eq_getElem hq]
   congr 1
   have hD:M.getD i []=M[i]:=by simp [List.getD,List.getElem?_eq_getElem hq]
   rw [hD]
   apply List.ext_getElem?
   intro z
   rw [List.getElem?_set]
   split
   ·rename_i e2
    subst e2
    split
    ·rename_i hz
     rw [List.getElem?_eq_getElem hz]
     simp [List.getD,List.getElem?_eq_getElem hz]
    ·rename_i hz
     rw [List.getElem?_eq_none (by omega)]
   ·rfl
  ·rename_i hq
   rw [List.getElem?_eq_none (by omega)]
 ·rfl
theorem cellW_stop {M:List (List Bool)} {k i j:Nat} (h:getM M i k=false):cellW k i j M=M:=by
 unfold cellW
 rw [h,Bool.false_and,Bool.or_false]
 exact setM_same M i j
theorem upto_stop {M:List (List Bool)} {k i j:Nat} (h:getM (upto (cellW k i) j M) i k=false):∀n,j≤n→upto (cellW k i) n M=upto (cellW k i) j M:=by
 intro n hn
 induction hn with
 | refl=>rfl
 | step hn ih=>rw [upto,ih,cellW_stop h]
set_option maxHeartbeats 4000000 in
set_option maxRecDepth 10000 in
theorem rr_j {k i:Nat} (hk:k<n) (hi:i<n) (hn1:n≤1000) {hA:Hp} (hAn:hA.next=n0) {a:Ev.A} {Q:Ex→Ev.A→Hp→Prop} (hn:a.n=126) (hX:Ext hA h) (hM:MatR h n0 tb n f bs M) {x1 x4:Value}
  (g1:a.get 1=x1) (g4:a.get 4=x4) (g5:a.get 5=.slice (some ⟨tb,0,none⟩) n n) (g8:a.get 8=.int .i64 k) (g9:a.get 9=.int .i64 i) (g10:a.get 10=.int .i64 0)
  (hq:∀a1 h1,a1.n=126→Ext hA h1→MatR h1 n0 tb n f bs (upto (cellW k i) n M)→a1.get 1=x1→a1.get 4=x4→a1.get 5=.slice (some ⟨tb,0,none⟩) n n→a1.get 8=.int .i64 k→a1.get 9=.int .i64 i→Q (.exit 6) a1 h1) :
  Th Try.prog (bodyAt Try.f29 [1,1,1,1,1,0,1,0,0,1,0,0,1,0,0,1,0,0,1,0]) a h Q ⟨⟩ ⟨⟩:=by
 simp only [bodyAt,nav,Try.f29]
 refine loop_go (n:=126) (by kernel_rfl) (fun m' a' h'=>∃j:Nat,j≤n∧m'=n - j∧Ext hA h'∧MatR h' n0 tb n f bs (upto (cellW k i) j M) ∧
  a'.get 1=x1∧a'.get 4=x4∧a'.get 5=.slice (some ⟨tb,0,none⟩) n n∧a'.get 8=.int .i64 k∧a'.get 9=.int .i64 i∧a'.get 10=.int .i64 j) ?_ n _ _ hn ⟨0,Nat.zero_le _,rfl,hX,hM,g1,g4,g5,g8,g9,g10⟩
 rintro m' a' h' hn' ⟨j,hj,rfl,hx,hM',e1,e4,e5,e8,e9,e10⟩
 by_cases hlt:j<n
 ·have hi1:decide ((j:Int)<(n:Int))=true:=decide_eq_true (Int.ofNat_lt.2 hlt)
  obtain ⟨bi,Li,q1,q2,q3,q4,q5,q6⟩:=hM'.at hi
  obtain ⟨bk',Lk,p1,p2,p3,p4,p5,p6⟩:=hM'.at hk
  have q6j:=q6 j hlt
  have q6k:=q6 k hk
  have p6j:=p6 j hlt
  cases hik:getM (upto (cellW k i) j M) i k with
  | false =>
    rw [hik] at q6k
    simp -dsimp only [go_sem,undef',e1,e4,e5,e8,e9,e10,hi1,ia108 hi,ia105 hk,q5,q6k]
    refine hq _ _ (by simp -dsimp only [go_sem,hn']) hx ?_ (by simp -dsimp only [go_sem,e1]) (by simp -dsimp only [go_sem,e4]) (by simp -dsimp only [go_sem,e5]) (by simp -dsimp only [go_sem,e8]) (by simp -dsimp only [go_sem,e9])
    rw [upto_stop hik n hj]
    exact hM'
  | true =>
    rw [hik] at q6k
    simp -dsimp only [go_sem,undef',e1,e4,e5,e8,e9,e10,hi1,ia108 hi,ia105 hk,q5,q6k]
    refine Dw_text (n:=126) [[],[],[0,1],[0,1,2],[],[],[],[5,6],[5,6,7],[],[5,6,7,8,9],[5,6,7,8,9,10],[5,6,7,8,9,10,11],[5,6,7,8,9,10,11,12],[5,6,7,8,9,10,11,12],[5,6,7,8,9,10,11,12,13,14],[5,6,7,8,9,10,11,12,13,14,15],[5,6,7,8,9,10,11,12],[5,6,7,8,9,10,11,12,13,14,15,16,17],[5,6,7,8,9,10,11,12,13,14,15,16,17,18],[5,6,7,8,9,10,11,12,13,14,15,16,17,18,19],[0,1,2,3,4,5,6,7,8,9,10,11,12,13,14,15,16,17,18,19,20],[0,1,2,3,4,5,6,7,8,9,10,11,12,13,14,15,16,17,18,19,20,21]] (by simp -dsimp only [go_sem,hn']) (by kernel_rfl) ?_
    obtain ⟨s1,s2⟩:=hM'.put q1 q2 hlt (getM (upto (cellW k i) j M) i j||(getM (upto (cellW k i) j M) i k&&getM (upto (cellW k i) j M) k j))
    have hx2:=hx.put (b:=bi) (by rw [hAn];exact hM'.lo.2 _ _ q1) (.cells ⟨(Li.set j (getM (upto (cellW k i) j M) i j||(getM (upto (cellW k i) j M) i k&&getM (upto (cellW k i) j M) k j))).map .bool,4,0,0,false⟩)
    have fin:MatR (h'.put bi (.cells ⟨(Li.set j (getM (upto (cellW k i) j M) i j||(getM (upto (cellW k i) j M) i k&&getM (upto (cellW k i) j M) k j))).map .bool,4,0,0,false⟩)) n0 tb n f bs (upto (cellW k i) (j+1) M):=s2
    rw [hik,Bool.true_and] at s1 fin hx2
    cases hij:getM (upto (cellW k i) j M) i j with
    | true =>
      rw [hij] at s1 fin q6j hx2
      rw [Bool.true_or] at s1 fin hx2
      simp -dsimp only [go_sem,undef',e1,e4,e5,e8,e9,e10,ia108 hi,ia108 hk,ia105 hlt,ia105 hk,q5,q6j,p5,p6j,s1,wrap64_succ hlt (Nat.le_trans hn1 (by decide))]
      exact ⟨n - (j+1),by omega,j+1,hlt,rfl,hx2,fin,rfl⟩
    | false =>
      rw [hij] at s1 fin q6j hx2
      rw [Bool.false_or] at s1 fin hx2
      simp -dsimp only [go_sem,undef',e1,e4,e5,e8,e9,e10,ia108 hi,ia108 hk,ia105 hlt,ia105 hk,q5,q6j,p5,p6j,s1,wrap64_succ hlt (Nat.le_trans hn1 (by decide))]
      exact ⟨n - (j+1),by omega,j+1,hlt,rfl,hx2,fin,rfl⟩
 ·have hi0:decide ((j:Int)<(n:Int))=false:=decide_eq_false (by omega)
  have hjn:j=n:=by omega
  subst hjn
  simp -dsimp only [go_sem,undef',e5,e10,hi0]
  exact hq _ _ (by simp -dsimp only [go_sem,hn']) hx hM' (by simp -dsimp only [go_sem,e1]) (by simp -dsimp only [go_sem,e4]) (by simp -dsimp only [go_sem,e5]) (by simp -dsimp only [go_sem,e8]) (by simp -dsimp only [go_sem,e9])
set_option maxHeartbeats 2000000 in
set_option maxRecDepth 10000 in
theorem rr_i {k:Nat} (hk:k<n) (hn1:n≤1000) {hA:Hp} (hAn:hA.next=n0) {a:Ev.A} {Q:Ex→Ev.A→Hp→Prop} (hn:a.n=126) (hX:Ext hA h) (hM:MatR h n0 tb n f bs M) {x1 x4:Value}
  (g1:a.get 1=x1) (g4:a.get 4=x4) (g5:a.get 5=.slice (some ⟨tb,0,none⟩) n n) (g8:a.get 8=.int .i64 k) (g9:a.get 9=.int .i64 0)
  (hq:∀a1 h1,a1.n=126→Ext hA h1→MatR h1 n0 tb n f bs (upto (fun i=>upto (cellW k i) n) n M)→a1.get 1=x1→a1.get 4=x4→a1.get 5=.slice (some ⟨tb,0,none⟩) n n→a1.get 8=.int .i64 k→Q (.exit 4) a1 h1) :
  Th Try.prog (bodyAt Try.f29 [1,1,1,1,1,0,1,0,0,1,0,0,1,0]) a h Q ⟨⟩ ⟨⟩:=by
 simp only [bodyAt,nav,Try.f29]
 refine loop_go (n:=126) (by kernel_rfl) (fun m' a' h'=>∃j:Nat,j≤n∧m'=n - j∧Ext hA h'∧MatR h' n0 tb n f bs (upto (fun i=>upto (cellW k i) n) j M) ∧
  a'.get 1=x1∧a'.get 4=x4∧a'.get 5=.slice (some ⟨tb,0,none⟩) n n∧a'.get 8=.int .i64 k∧a'.get 9=.int .i64 j) ?_ n _ _ hn ⟨0,Nat.zero_le _,rfl,hX,hM,g1,g4,g5,g8,g9⟩
 rintro m' a' h' hn' ⟨j,hj,rfl,hx,hM',e1,e4,e5,e8,e9⟩
 by_cases hlt:j<n
 ·have hi1:decide ((j:Int)<(n:Int))=true:=decide_eq_true (Int.ofNat_lt.2 hlt)
  simp -dsimp only [go_sem,e1,e4,e5,e8,e9,hi1]
  refine rr_j (x1:=x1) (x4:=x4) hk hlt hn1 hAn (by simp -dsimp only [go_sem,hn']) hx hM' (by simp -dsimp only [go_sem,e1]) (by simp -dsimp only [go_sem,e4]) (by simp -dsimp only [go_sem,e5]) (by simp -dsimp only [go_sem,e8]) (by simp -dsimp only [go_sem,e9]) (by simp -dsimp only [go_sem]) (fun a1 h1 hn1' hx1 hM1 f1 f4 f5 f8 f9 => ?_)
  simp -dsimp only [go_sem,f9,wrap64_succ hlt (Nat.le_trans hn1 (by decide))]
  exact ⟨n - (j+1),by omega,j+1,hlt,rfl,hx1,hM1,f1,f4,f5,f8,rfl⟩
 ·have hi0:decide ((j:Int)<(n:Int))=false:=decide_eq_false (by omega)
  have hjn:j=n:=by omega
  subst hjn
  simp -dsimp only [go_sem,e5,e9,hi0]
  exact hq _ _ (by simp -dsimp only [go_sem,hn']) hx hM' (by simp -dsimp only [go_sem,e1]) (by simp -dsimp only [go_sem,e4]) (by simp -dsimp only [go_sem,e5]) (by simp -dsimp only [go_sem,e8])
set_option maxHeartbeats 2000000 in
set_option maxRecDepth 10000 in
theorem rr_k (hn1:n≤1000) {hA:Hp} (hAn:hA.next=n0) {a:Ev.A} {Q:Ex→Ev.A→Hp→Prop} (hn:a.n=126) (hX:Ext hA h) (hM:MatR h n0 tb n f bs M) {x1 x4:Value}
  (g1:a.get 1=x1) (g4:a.get 4=x4) (g5:a.get 5=.slice (some ⟨tb,0,none⟩) n n) (g8:a.get 8=.int .i64 0)
  (hq:∀a1 h1,a1.n=126→Ext hA h1→MatR h1 n0 tb n f bs (warshall n M)→a1.get 1=x1→a1.get 4=x4→a1.get 5=.slice (some ⟨tb,0,none⟩) n n→Q (.exit 2) a1 h1) :
  Th Try.prog (bodyAt Try.f29 [1,1,1,1,1,0,1,0]) a h Q ⟨⟩ ⟨⟩:=by
 simp only [bodyAt,nav,Try.f29]
 refine loop_go (n:=126) (by kernel_rfl) (fun m' a' h'=>∃j:Nat,j≤n∧m'=n - j∧Ext hA h'∧MatR h' n0 tb n f bs (upto (fun k=>upto (fun i=>upto (cellW k i) n) n) j M) ∧
  a'.get 1=x1∧a'.get 4=x4∧a'.get 5=.slice (some ⟨tb,0,none⟩) n n∧a'.get 8=.int .i64 j) ?_ n _ _ hn ⟨0,Nat.zero_le _,rfl,hX,hM,g1,g4,g5,g8⟩
 rintro m' a' h' hn' ⟨j,hj,rfl,hx,hM',e1,e4,e5,e8⟩
 by_cases hlt:j<n
 ·have hi1:decide ((j:Int)<(n:Int))=true:=decide_eq_true (Int.ofNat_lt.2 hlt)
  simp -dsimp only [go_sem,e1,e4,e5,e8,hi1]
  refine rr_i (x1:=x1) (x4:=x4) hlt hn1 hAn (by simp -dsimp only [go_sem,hn']) hx hM' (by simp -dsimp only [go_sem,e1]) (by simp -dsimp only [go_sem,e4]) (by simp -dsimp only [go_sem,e5]) (by simp -dsimp only [go_sem,e8]) (by simp -dsimp only [go_sem]) (fun a1 h1 hn1' hx1 hM1 f1 f4 f5 f8 => ?_)
  simp -dsimp only [go_sem,f8,wrap64_succ hlt (Nat.le_trans hn1 (by decide))]
  exact ⟨n - (j+1),by omega,j+1,hlt,rfl,hx1,hM1,f1,f4,f5,rfl⟩
 ·have hi0:decide ((j:Int)<(n:Int))=false:=decide_eq_false (by omega)
  have hjn:j=n:=by omega
  subst hjn
  simp -dsimp only [go_sem,e5,e8,hi0]
  exact hq _ _ (by simp -dsimp only [go_sem,hn']) hx hM' (by simp -dsimp only [go_sem,e1]) (by simp -dsimp only [go_sem,e4]) (by simp -dsimp only [go_sem,e5])
end Go.Ev.G24
end
section
namespace Go.Ev.G24
open Go.RowKit Go.Proofs
variable {r:Ro}
structure MatS (h:Hp) (n0 n i:Nat) (bs:List Nat) (M:List (List Bool)):Prop where
 lb:bs.length=i
 lM:M.length=i
 rows:∀(j b:Nat) (L:List Bool),bs[j]? = some b→M[j]? = some L→h.own b 4 (L.map .bool)∧L.length=n
 dis:∀i j b:Nat,bs[i]? = some b→bs[j]? = some b→i=j
 lo:∀i b:Nat,bs[i]? = some b→n0≤b∧b<h.next
theorem snoc_get {α:Type} {l:List α} {x y:α} {i:Nat} (h:(l++[x])[i]? = some y):l[i]? = some y∨(i=l.length∧y=x):=by
 rcases Nat.lt_or_ge i l.length with c|c
 ·rw [List.getElem?_append_left c] at h;exact .inl h
 ·rw [List.getElem?_append_right c] at h
  cases hj:i - l.length with
  | zero=>rw [hj] at h;simp at h;exact .inr ⟨by omega,h.symm⟩
  | succ q=>rw [hj] at h;simp at h
theorem get_lt' {α:Type} {l:List α} {i:Nat} {x:α} (h:l[i]? = some x):i<l.length:=(List.getElem?_eq_some_iff.1 h).1
theorem MatS.more {h h1:Hp} {n0 n i:Nat} {bs:List Nat} {M:List (List Bool)} (k:MatS h n0 n i bs M) (hk:∀b' e' c',e'≠105→h.own b' e' c'→h1.own b' e' c') (hnx:h.next≤h1.next) {b:Nat} {L:List Bool} (hb:h.next≤b) (hn0:n0≤b) (ho:h1.own b 4 (L.map .bool)) (hL:L.length=n):MatS h1 n0 n (i+1) (bs++[b]) (M++[L]):=by
 refine ⟨by simp [k.lb],by simp [k.lM],?_,?_,?_⟩
 ·intro j b' L' h1' h2'
  rcases snoc_get h1' with c|⟨c1,c2⟩
  ·rw [List.getElem?_append_left (by have:=get_lt' c;rw [k.lM,←k.lb];exact this)] at h2'
   obtain ⟨p1,p2⟩:=k.rows j b' L' c h2'
   exact ⟨hk _ _ _ (by decide) p1,p2⟩
  ·subst c2
   rw [c1,k.lb,←k.lM] at h2'
   simp at h2'
   subst h2'
   exact ⟨ho,hL⟩
 ·intro x y b' h1' h2'
  rcases snoc_get h1' with c|⟨c1,c2⟩<;>rcases snoc_get h2' with d|⟨d1,d2⟩
  ·exact k.dis _ _ _ c d
  ·subst d2;have:=(k.lo _ _ c).2;omega
  ·subst c2;have:=(k.lo _ _ d).2;omega
  ·omega
 ·intro x b' h1'
  rcases snoc_get h1' with c|⟨c1,c2⟩
  ·have:=k.lo _ _ c;exact ⟨this.1,Nat.lt_of_lt_of_le this.2 hnx⟩
  ·subst c2;exact ⟨hn0,ho.2.1⟩
set_option maxHeartbeats 4000000 in
set_option maxRecDepth 10000 in
theorem rr_rows {l:List Rule} {Av:Option Addr} {c b o gp eb:Nat} {css:Nat→List Value} (R:RoRules r l Av c b o css) (hrg:∀(i:Nat) (x:Rule),l[i]? = some x→rightP (nms l) x.body=true) {em:List Bool} (hel:em.length=l.length)
  {hA:Hp} (hrom:hA.rom=r) (hbA:hA.base≤hA.next) (hE:hA.own eb 4 (em.map .bool)) (hP:hA.own gp 24 [.slice Av l.length c]) {a:Ev.A} {Q:Ex→Ev.A→Hp→Prop} (hn:a.n=126)
  (g1:a.get 1=.pointer (some ⟨gp,0,none⟩)) (g4:a.get 4=.slice (some ⟨eb,0,none⟩) l.length l.length) (g5:a.get 5=.slice none 0 0) (g6:a.get 6=.int .i64 0)
  (hq:∀a1 h1 bs v,a1.n=126→Ext hA h1→MatS h1 hA.next l.length l.length bs (l.map (rowB l em))→OwnE 105 h1 hA.next hA.nfam (bs.map fun b=>.slice (some ⟨b,0,none⟩) l.length l.length) v→a1.get 1=.pointer (some ⟨gp,0,none⟩)→a1.get 4=.slice (some ⟨eb,0,none⟩) l.length l.length→a1.get 5=v→Q (.exit 0) a1 h1) :
  Th Try.prog (bodyAt Try.f29 [1,1,1,1,0,1,0]) a hA Q ⟨⟩ ⟨⟩:=by
 simp only [bodyAt,nav,Try.f29]
 refine loop_go (n:=126) (by kernel_rfl) (fun m' a' h'=>∃(j:Nat) (bs:List Nat) (v:Value),j≤l.length∧m'=l.length - j∧Ext hA h'∧MatS h' hA.next l.length j bs ((l.take j).map (rowB l em))∧OwnE 105 h' hA.next hA.nfam (bs.map fun b=>.slice (some ⟨b,0,none⟩) l.length l.length) v ∧
  a'.get 1=.pointer (some ⟨gp,0,none⟩)∧a'.get 4=.slice (some ⟨eb,0,none⟩) l.length l.length∧a'.get 5=v∧a'.get 6=.int .i64 j) ?_ l.length _ _ hn ⟨0,[],_,Nat.zero_le _,rfl,Ext.refl _,⟨rfl,rfl,fun _ _ _ e=>by simp at e,fun _ _ _ e=>by simp at e,fun _ _ e=>by simp at e⟩,.inl ⟨rfl,rfl⟩,g1,g4,g5,g6⟩
 rintro m' a' h' hn' ⟨j,bs,v,hj,rfl,hx,hM',hO',e1,e4,e5,e6⟩
 have hrom':h'.rom=r:=hx.rom.trans hrom
 have hb':h'.base≤h'.next:=by rw [hx.base];exact Nat.le_trans hbA hx.next
 have hP':=own_ext hx hP
 by_cases hlt:j<l.length
 ·have hi1:decide ((j:Int)<(l.length:Int))=true:=decide_eq_true (Int.ofNat_lt.2 hlt)
  have hpi:l[j]? = some l[j]:=List.getElem?_eq_getElem hlt
  obtain ⟨Av1,c1',hcs⟩:=(R.hk j _ hpi).shape
  have hat':=R.hat j _ hpi
  have hkid:=R.hk j _ hpi
  rw [hcs] at hat' hkid
  have hat2:=roAt_tail hat'
  have hAv:=R.hA (ne_nil hlt)
  subst hAv
  have hT:=own_new hb' 4 ((List.replicate l.length false).map .bool)
  have hX3:=Ext.new h' (CObj.cells { c:=(List.replicate l.length false).map Value.bool,e:=4,fam:=0,base:=0,grown:=false })
  have hb3:=Nat.le_succ_of_le hb'
  have hP3:=own_ext hX3 hP'
  have hE3:=own_ext (hx.trans hX3) hE
  simp -dsimp only [go_sem,e1,e4,e5,e6,hi1,load_own hP',ms105 l.length l.length (Nat.le_refl _) R.hb,repeat_bool]
  generalize hg3:h'.newH (CObj.cells { c:=(List.replicate l.length false).map Value.bool,e:=4,fam:=0,base:=0,grown:=false })=h3 at hT hX3 hP3 hE3 ⊢
  have hb3':h3.base≤h3.next:=by rw [hX3.base];exact Nat.le_trans hb' hX3.next
  have hen:eb≠h'.next:=by have:=hE.2.1;have:=hx.next;omega
  obtain ⟨_,h5,hs5,rfl,hx5,hown5⟩:=left_c R (em:=em) (eb:=eb) (tb:=h'.next) hel hen _ l[j].body (Nat.lt_succ_self _) h3 _ (List.replicate l.length false) (hX3.rom.trans hrom') hb3' hE3 hkid (hrg j _ hpi) hT (by simp)
  refine Dw_text (n:=126) [[],[],[],[2],[],[2,3,4],[2,3,4,5],[2,3,4,5,6],[],[0,1,2,3,4,5,6,7,8]] (by simp -dsimp only [go_sem,hn']) (by kernel_rfl) ?_
  simp -dsimp only [go_sem,e1,e4,e5,e6,loads_own hP3,load_own hP3,ia22 hlt,loads_ro (n:=3) (hX3.rom.trans hrom') hat2 rfl,sameN_sliceA R.hs,sameN_sliceA hkid.same]
  refine ⟨_,h5,hs5,?_⟩
  have hx35:Ext h' h5:=(hX3.toS.trans hx5).ext (fun q hq hs=>by
   have:q=h'.next:=hs
   omega)
  have hb5:h5.base≤h5.next:=by rw [hx35.base];exact Nat.le_trans hb' hx35.next
  have hW:=own_new hb5 105 [.slice (some ⟨h'.next,0,none⟩) l.length l.length]
  have hX6:=Ext.new h5 (CObj.cells ⟨[.slice (some ⟨h'.next,0,none⟩) l.length l.length],105,0,0,false⟩)
  have hO6:=(hO'.ext hx35).ext hX6
  have hx56:=hx35.trans hX6
  have hx06:=hx.trans hx56
  obtain ⟨v',h7,ha7,hO7,hext7,hk7,hn7⟩:=app108 rfl hO6 hW (by rw [hx06.base];exact Nat.le_trans hbA hx06.next) hx06.next hx06.nfam (by rw [List.length_map,hM'.lb];exact Nat.le_trans hj (Nat.le_trans R.hb (by decide)))
  have hx7:Ext hA h7:=(hext7 (fun _=>False) hA (hx06.toS) (Nat.le_refl _) (Nat.le_refl _)).ext (fun _ _ c=>c)
  simp -dsimp only [go_sem,e1,e4,e5,e6,bs108 1 (by decide),repeatN,builtin',ha7,wrap64_succ hlt (Nat.le_trans R.hb (by decide))]
  have htk:(l.take (j+1)).map (rowB l em)=(l.take j).map (rowB l em)++[rowB l em l[j]]:=by
   rw [List.take_succ_eq_append_getElem hlt,List.map_append];rfl
  refine ⟨l.length - (j+1),by omega,j+1,bs++[h'.next],v',hlt,rfl,hx7,?_,?_,rfl,rfl⟩
  ·rw [htk]
   have hL:(rowB l em l[j]).length=l.length:=by unfold rowB;rw [startB_len];simp
   exact hM'.more (fun b' e' c' hne ho=>hk7 _ _ _ hne (own_ext hx56 ho)) (Nat.le_trans hx56.next hn7) (Nat.le_refl _) hx.next (hk7 _ _ _ (by decide) (own_ext hX6 hown5)) hL
  ·rw [List.map_append];exact hO7
 ·have hi0:decide ((j:Int)<(l.length:Int))=false:=decide_eq_false (by omega)
  have hjn:j=l.length:=by omega
  subst hjn
  rw [List.take_length] at hM'
  simp -dsimp only [go_sem,e1,e6,hi0,load_own hP']
  exact hq _ _ bs v (by simp -dsimp only [go_sem,hn']) hx hM' hO' (by simp -dsimp only [go_sem,e1]) (by simp -dsimp only [go_sem,e4]) (by simp -dsimp only [go_sem,e5])
def pickN:List Rule→List Bool→List ByteArray
 | x::l,b::bs=>if b then x.name::pickN l bs else pickN l bs
 | _,_=>[]
theorem pickN_snoc:∀(l:List Rule) (bs:List Bool) (i:Nat) (hi:i<l.length) (hb:i<bs.length),pickN (l.take (i+1)) (bs.take (i+1))=pickN (l.take i) (bs.take i)++(if bs[i] then [l[i].name] else [])
 | x::l,b::bs,0,_,_=>by
   simp only [List.take_succ_cons,List.take_zero,pickN,List.getElem_cons_zero,List.nil_append]
 | x::l,b::bs,i+1,hi,hb=>by
   have ih:=pickN_snoc l bs i (by simpa using hi) (by simpa using hb)
   simp only [List.take_succ_cons,pickN,List.getElem_cons_succ] at ih ⊢
   rw [ih]
   cases b<;>simp
 | [],_,_,hi,_=>absurd hi (Nat.not_lt_zero _)
 | _::_,[],_,_,hb=>absurd hb (Nat.not_lt_zero _)
set_option maxHeartbeats 4000000 in
set_option maxRecDepth 10000 in
theorem rr_out {l:List Rule} {Av:Option Addr} {c b o gp eb tb f:Nat} {css:Nat→List Value} (R:RoRules r l Av c b o css) (hnm:∀(i:Nat) (x:Rule),l[i]? = some x→named (nms l) x.body) {em:List Bool} (hel:em.length=l.length)
  {hA h:Hp} {n0 f0:Nat} {bs:List Nat} (hrom:hA.rom=r) (hbA:hA.base≤hA.next) (hn0:n0=hA.next) (hf0:f0=hA.nfam) (hE:hA.own eb 4 (em.map .bool)) (hP:hA.own gp 24 [.slice Av l.length c]) (hX:Ext hA h) (hM:MatR h n0 tb l.length f bs (closedM l em)) {a:Ev.A} {Q:Ex→Ev.A→Hp→Prop} (hn:a.n=126)
  (g1:a.get 1=.pointer (some ⟨gp,0,none⟩)) (g4:a.get 4=.slice (some ⟨eb,0,none⟩) l.length l.length) (g5:a.get 5=.slice (some ⟨tb,0,none⟩) l.length l.length) (g11:a.get 11=.slice none 0 0) (g12:a.get 12=.int .i64 0)
  (hq:∀a1 h1 v,a1.n=126→Ext hA h1→OwnE 9 h1 h.next h.nfam ((pickN l (recB l em)).map .string) v→a1.get 11=v→Q (.exit 8) a1 h1) :
  Th Try.prog (bodyAt Try.f29 [1,1,1,1,1,1,1,0,1,0]) a h Q ⟨⟩ ⟨⟩:=by
 simp only [bodyAt,nav,Try.f29]
 refine loop_go (n:=126) (by kernel_rfl) (fun m' a' h'=>∃(j:Nat) (v:Value),j≤l.length∧m'=l.length - j∧Ext h h'∧OwnE 9 h' h.next h.nfam ((pickN (l.take j) ((recB l em).take j)).map .string) v ∧
  a'.get 1=.pointer (some ⟨gp,0,none⟩)∧a'.get 4=.slice (some ⟨eb,0,none⟩) l.length l.length∧a'.get 5=.slice (some ⟨tb,0,none⟩) l.length l.length∧a'.get 11=v∧a'.get 12=.int .i64 j) ?_ l.length _ _ hn ⟨0,_,Nat.zero_le _,rfl,Ext.refl _,.inl ⟨by simp [pickN],rfl⟩,g1,g4,g5,g11,g12⟩
 rintro m' a' h' hn' ⟨j,v,hj,rfl,hx,hO',e1,e4,e5,e11,e12⟩
 have hxA:=hX.trans hx
 have hrom':h'.rom=r:=hxA.rom.trans hrom
 have hb':h'.base≤h'.next:=by rw [hxA.base];exact Nat.le_trans hbA hxA.next
 have hP':=own_ext hxA hP
 have hE':=own_ext hxA hE
 have hM':=hM.ext hx
 by_cases hlt:j<l.length
 ·have hi1:decide ((j:Int)<(l.length:Int))=true:=decide_eq_true (Int.ofNat_lt.2 hlt)
  have hpi:l[j]? = some l[j]:=List.getElem?_eq_getElem hlt
  obtain ⟨Av1,c1',hcs⟩:=(R.hk j _ hpi).shape
  have hat':=R.hat j _ hpi
  have hkid:=R.hk j _ hpi
  rw [hcs] at hat' hkid
  have hat2:=roAt_tail hat'
  have hAv:=R.hA (ne_nil hlt)
  subst hAv
  obtain ⟨bj,Lj,q1,q2,q3,q4,q5,q6⟩:=hM'.at hlt
  have q6j:=q6 j hlt
  have hjr:j<(recB l em).length:=by rw [recB_len];exact hlt
  have hrq:(recB l em)[j]=(getM (closedM l em) j j||idleB (emf (nms l) em) l[j].body):=by simp [recB]
  have hsn:=pickN_snoc l (recB l em) j hlt hjr
  have hld:∀{h3:Hp},h3.rom=r→h3.load ⟨b,o+j*4,none⟩=some (.string l[j].name):=by
   intro h3 h3r
   have:=load_ro h3r hat' (j:=0) (v:=.string l[j].name) rfl
   simpa using this
  have next:∀{h3:Hp},Ext h' h3→(recB l em)[j]=true→∃v' h7,append' Try.prog (h3.newH (CObj.cells ⟨[.string l[j].name],9,0,0,false⟩)) [25,25] [v,.slice (some ⟨h3.next,0,none⟩) 1 1]=some (v',h7)∧Ext h h7∧OwnE 9 h7 h.next h.nfam ((pickN (l.take (j+1)) ((recB l em).take (j+1))).map .string) v':=by
   intro h3 hx3 hrt
   have hb3:h3.base≤h3.next:=by rw [hx3.base];exact Nat.le_trans hb' hx3.next
   have hW:=own_new hb3 9 [.string l[j].name]
   have hX6:=Ext.new h3 (CObj.cells ⟨[.string l[j].name],9,0,0,false⟩)
   have hx06:=hx.trans (hx3.trans hX6)
   have hplen:((pickN (l.take j) ((recB l em).take j)).map Value.string).length≤100000:=by
    have:∀(l:List Rule) (bs:List Bool),(pickN l bs).length≤l.length:=by
     intro l
     induction l with
     | nil=>intro bs;simp [pickN]
     | cons x l ih=>intro bs;cases bs with
       | nil=>simp [pickN]
       | cons b bs=>simp only [pickN];have:=ih bs;cases b<;>simp<;>omega
    have h9:=this (l.take j) ((recB l em).take j)
    rw [List.length_take] at h9
    rw [List.length_map]
    have:=R.hb
    omega
   obtain ⟨v',h7,ha7,hO7,hext7,hk7,hn7⟩:=app25 rfl ((hO'.ext hx3).ext hX6) hW (by rw [hX6.base];exact Nat.le_trans hb3 hX6.next) hx06.next hx06.nfam hplen
   refine ⟨v',h7,ha7,(hext7 (fun _=>False) h (hx06.toS) (Nat.le_refl _) (Nat.le_refl _)).ext (fun _ _ c=>c),?_⟩
   rw [hsn,hrt]
   simpa using hO7
  have stay:(recB l em)[j]=false→pickN (l.take (j+1)) ((recB l em).take (j+1))=pickN (l.take j) ((recB l em).take j):=by
   intro e
   rw [hsn,e]
   simp
  simp -dsimp only [go_sem,e1,e4,e5,e11,e12,hi1]
  refine Dw_text (n:=126) [[],[],[0,1],[0,1,2],[],[0,1,2,3,4],[0,1,2,3,4,5],[0,1,2,3,4,5,6],[0,1,2,3,4,5,6,7],[0,1,2,3,4,5,6,7],[0,1,2,3,4,5,6,7],[0,1,2,3,4,5,6,7,10],[0,1,2,3,4,5,6,7],[0,1,2,3,4,5,6,7,10,11,12],[0,1,2,3,4,5,6,7,10,11,12,13],[0,1,2,3,4,5,6,7,10,11,12,13,14],[0,1,2,3,4,5,6,7,8,9,10,11,12,13,14,15],[0,1,2,3,4,5,6,7,8,9,10,11,12,13,14,15,16]] (by simp -dsimp only [go_sem,hn']) (by kernel_rfl) ?_
  cases hjj:getM (closedM l em) j j with
  | true =>
    rw [hjj] at q6j hrq
    rw [Bool.true_or] at hrq
    obtain ⟨v',h7,ha7,hx7,hO7⟩:=next (Ext.refl h') hrq
    rw [←e11] at ha7
    simp -dsimp only [go_sem,undef',e1,e4,e5,e12,ia22 hlt,ia108 hlt,ia105 hlt,q5,q6j,load_own hP',hld hrom',bs25 1 (by decide),repeatN,builtin',ha7,wrap64_succ hlt (Nat.le_trans R.hb (by decide))]
    exact ⟨l.length - (j+1),by omega,j+1,v',hlt,rfl,hx7,hO7,rfl,rfl⟩
  | false =>
    rw [hjj] at q6j hrq
    rw [Bool.false_or] at hrq
    obtain ⟨_,h5,hs5,rfl,hx5⟩:=idle2_c R (em:=em) (eb:=eb) hel _ l[j].body (Nat.lt_succ_self _) h' _ hrom' hb' hE' hkid (hnm j _ hpi)
    simp -dsimp only [go_sem,undef',e1,e4,e5,e12,ia22 hlt,ia108 hlt,ia105 hlt,q5,q6j,load_own hP',loads_own hP',loads_ro (n:=3) hrom' hat2 rfl,sameN_sliceA R.hs,sameN_sliceA hkid.same]
    refine ⟨_,h5,hs5,?_⟩
    simp -dsimp only [go_sem,undef']
    cases hid:idleB (emf (nms l) em) l[j].body with
    | true =>
      rw [hid] at hrq
      obtain ⟨v',h7,ha7,hx7,hO7⟩:=next hx5 hrq
      rw [←e11] at ha7
      simp -dsimp only [go_sem,undef',e1,e4,e5,e12,ia22 hlt,load_own (own_ext hx5 hP'),hld (hx5.rom.trans hrom'),bs25 1 (by decide),repeatN,builtin',ha7,wrap64_succ hlt (Nat.le_trans R.hb (by decide))]
      exact ⟨l.length - (j+1),by omega,j+1,v',hlt,rfl,hx7,hO7,rfl,rfl⟩
    | false =>
      rw [hid] at hrq
      simp -dsimp only [go_sem,undef',e1,e4,e5,e12,wrap64_succ hlt (Nat.le_trans R.hb (by decide))]
      refine ⟨l.length - (j+1),by omega,j+1,v,hlt,rfl,hx.trans hx5,?_,e11,rfl⟩
      rw [stay hrq]
      exact hO'.ext hx5
 ·have hi0:decide ((j:Int)<(l.length:Int))=false:=decide_eq_false (by omega)
  have hjn:j=l.length:=by omega
  subst hjn
  simp -dsimp only [go_sem,e5,e12,hi0]
  refine hq _ _ v (by simp -dsimp only [go_sem,hn']) hxA ?_ (by simp -dsimp only [go_sem,e11])
  rw [List.take_length,List.take_of_length_le (by rw [recB_len];exact Nat.le_refl _)] at hO'
  exact hO'
end Go.Ev.G24
end
section
namespace Go.Ev.G24
open Go.RowKit Go.Proofs
variable {r:Ro}
def RecP (l:List Rule) (h:Hp) (v:Value) (h1:Hp):Prop:=Ext h h1∧(if rightG l=true then ∃(em:List Bool) (nv:Value) (n0 f0:Nat),Found l em∧v=.tuple #[nv,.int .i64 0]∧h.next≤n0∧h.nfam≤f0∧OwnE 9 h1 n0 f0 ((pickN l (recB l em)).map .string) nv
 else v=.tuple #[.slice none 0 0,.int .i64 240])
set_option maxHeartbeats 4000000 in
set_option maxRecDepth 10000 in
theorem refRec_c {l:List Rule} {Av:Option Addr} {c b o:Nat} {css:Nat→List Value} (R:RoRules r l Av c b o css) (hft:fitsG l) (h:Hp) (hrom:h.rom=r) (hb:h.base≤h.next) :
  ∃v h1,Snd Try.prog 29 [.agg #[.slice Av l.length c]] h v h1∧RecP l h v h1:=by
 refine snd_go wf Try.func29 rfl rfl (n:=126) rfl (by kernel_rfl) rfl ?_
 intro a hn hg
 have hr:Try.f29.results.toList=[.tmp 2,.tmp 3]:=rfl
 have g0:=hg 0
 clear hg
 simp only [List.getElem?_cons_zero,List.getElem?_cons_succ] at g0
 have hP:=own_new hb 24 [.slice Av l.length c]
 have hx0:=Ext.new h (CObj.cells ⟨[.slice Av l.length c],24,0,0,false⟩)
 have hb0:=Nat.le_succ_of_le (m:=h.next) hb
 simp -dsimp only [go_sem,g0,loads_own hP]
 generalize h.newH (CObj.cells ⟨[.slice Av l.length c],24,0,0,false⟩)=h2 at hP hx0 ⊢
 have hb2:h2.base≤h2.next:=by rw [hx0.base];exact Nat.le_trans hb hx0.next
 obtain ⟨_,h3,hs3,rfl,hx3⟩:=ref_Right_c R hft h2 (hx0.rom.trans hrom) hb2
 refine ⟨_,h3,hs3,?_⟩
 rw [refRightG_eq]
 have hP3:=own_ext hx3 hP
 have hx03:=hx0.trans hx3
 have hb3:h3.base≤h3.next:=by rw [hx03.base];exact Nat.le_trans hb hx03.next
 cases hrg:rightG l with
 | false =>
   simp -dsimp only [go_sem,hr]
   exact ⟨hx03,by rw [if_neg (by rw [hrg];simp)]⟩
 | true =>
   obtain ⟨hfr,hnm⟩:=rightG_named hrg
   have hrl:rightRs (nms l) l=true:=by
    have:=hrg
    rw [rightG,Bool.and_eq_true,Bool.and_eq_true] at this
    exact this.2
   have hpos:0<l.length:=by
    have:=hrg
    rw [rightG,Bool.and_eq_true,Bool.and_eq_true] at this
    have:=this.1.2
    simp at this
    exact List.length_pos_iff.2 this
   simp -dsimp only [go_sem,loads_own hP3]
   obtain ⟨_,h4,hs4,hx4,eb,em,rfl,heb,hE,hel,hF⟩:=empties_c R hnm h3 (hx03.rom.trans hrom) hb3
   refine ⟨_,h4,hs4,?_⟩
   have hx04:=hx03.trans hx4
   have hb4:h4.base≤h4.next:=by rw [hx04.base];exact Nat.le_trans hb hx04.next
   have hP4:=own_ext hx4 hP3
   try simp -dsimp only [go_sem]
   refine rr_rows R (rightRs_get hrl) (em:=em) (eb:=eb) (gp:=h.next) hel (hx04.rom.trans hrom) hb4 hE hP4 (by simp -dsimp only [go_sem,hn]) (by simp -dsimp only [go_sem]) (by simp -dsimp only [go_sem]) (by simp -dsimp only [go_sem]) (by simp -dsimp only [go_sem]) (fun a5 h5 bs v5 hn5 hx5 hM5 hO5 f1 f4 f5 => ?_)
   try simp -dsimp only [go_sem]
   rcases hO5 with ⟨e0,_⟩|⟨tb,f,hne,rfl,hrow,htb,hf⟩
   ·exfalso
    have:=congrArg List.length e0
    rw [List.length_map,hM5.lb,List.length_nil] at this
    omega
   rw [List.length_map,hM5.lb] at f5
   have hMR:MatR h5 h4.next tb l.length f bs (l.map (rowB l em)):=⟨hrow,hM5.lb,hM5.lM,hM5.rows,hM5.dis,htb,fun i b e=>(hM5.lo i b e).1⟩
   refine rr_k R.hb (hA:=h4) rfl (x1:=.pointer (some ⟨h.next,0,none⟩)) (x4:=.slice (some ⟨eb,0,none⟩) l.length l.length) (by simp -dsimp only [go_sem,hn5]) hx5 hMR (by simp -dsimp only [go_sem,f1]) (by simp -dsimp only [go_sem,f4]) (by simp -dsimp only [go_sem,f5]) (by simp -dsimp only [go_sem]) (fun a6 h6 hn6 hx6 hM6 k1 k4 k5 => ?_)
   simp -dsimp only [go_sem]
   refine rr_out R hnm (em:=em) (eb:=eb) (gp:=h.next) hel (hA:=h4) (hx04.rom.trans hrom) hb4 rfl rfl hE hP4 hx6 hM6 (by simp -dsimp only [go_sem,hn6]) (by simp -dsimp only [go_sem,k1]) (by simp -dsimp only [go_sem,k4]) (by simp -dsimp only [go_sem,k5]) (by simp -dsimp only [go_sem]) (by simp -dsimp only [go_sem]) (fun a7 h7 v7 hn7 hx7 hO7 q11 => ?_)
   simp -dsimp only [go_sem,q11,hr]
   refine ⟨hx04.trans hx7,?_⟩
   rw [if_pos hrg]
   exact ⟨em,v7,_,_,hF,rfl,Nat.le_trans hx04.next hx6.next,Nat.le_trans hx04.nfam hx6.nfam,hO7⟩
theorem pickN_nil:∀(l:List Rule) (bs:List Bool),bs.length=l.length→decide ((pickN l bs).length=0) = !bs.any (true == ·)
 | [],[],_=>rfl
 | x::l,b::bs,h=>by
   have ih:=pickN_nil l bs (by simpa using h)
   cases b
   ·simpa [pickN] using ih
   ·simp [pickN]
def FineP (l:List Rule) (h:Hp) (v:Value) (h1:Hp):Prop:=Ext h h1∧(if rightG l=true then ∃em:List Bool,Found l em∧v=.bool (fineB l em) else v=.bool false)
set_option maxHeartbeats 4000000 in
set_option maxRecDepth 10000 in
theorem refFine_c {l:List Rule} {Av:Option Addr} {c b o:Nat} {css:Nat→List Value} (R:RoRules r l Av c b o css) (hft:fitsG l) (h:Hp) (hrom:h.rom=r) (hb:h.base≤h.next) :
  ∃v h1,Snd Try.prog 38 [.agg #[.slice Av l.length c]] h v h1∧FineP l h v h1:=by
 refine snd_go wf Try.func38 rfl rfl (n:=17) rfl (by kernel_rfl) rfl ?_
 intro a hn hg
 have hr:Try.f38.results.toList=[.tmp 2]:=rfl
 have g0:=hg 0
 clear hg
 simp only [List.getElem?_cons_zero,List.getElem?_cons_succ] at g0
 have hP:=own_new hb 24 [.slice Av l.length c]
 have hx0:=Ext.new h (CObj.cells ⟨[.slice Av l.length c],24,0,0,false⟩)
 simp -dsimp only [go_sem,g0,loads_own hP]
 generalize h.newH (CObj.cells ⟨[.slice Av l.length c],24,0,0,false⟩)=h2 at hP hx0 ⊢
 have hb2:h2.base≤h2.next:=by rw [hx0.base];exact Nat.le_trans hb hx0.next
 obtain ⟨_,h3,hs3,hx3,hv⟩:=refRec_c R hft h2 (hx0.rom.trans hrom) hb2
 refine ⟨_,h3,hs3,?_⟩
 by_cases hrg:rightG l=true
 ·rw [if_pos hrg] at hv
  obtain ⟨em,nv,n0,f0,hF,rfl,_,_,hO⟩:=hv
  obtain ⟨A,rfl⟩:=hO.len
  have h00:decide ((0:Int)=0)=true:=rfl
  simp -dsimp only [go_sem,undef',h00,decide_true,hr]
  refine ⟨hx0.trans hx3,?_⟩
  rw [if_pos hrg]
  refine ⟨em,hF,?_⟩
  rw [fineB,←pickN_nil l _ (recB_len l em),List.length_map]
  congr 1
  rw [decide_eq_decide]
  omega
 ·rw [if_neg hrg] at hv
  subst hv
  have h24:decide ((240:Int)=0)=false:=rfl
  simp -dsimp only [go_sem,undef',h24,hr]
  exact ⟨hx0.trans hx3,by rw [if_neg hrg]⟩
end Go.Ev.G24
end
section
namespace Go.Ev.G24
open Go.RowKit Go.Proofs
variable {h h1 h2:Hp} {e:TypeId}
def SrcE (h:Hp) (v:Value) (ds:List Value):Prop:=lenOf' v=some ds.length∧first' h 1 ds.length v=some ds
theorem OwnE.src {n0 f0:Nat} {cs:List Value} {v:Value} (k:OwnE e h n0 f0 cs v):SrcE h v cs:=by
 rcases k with ⟨rfl,rfl⟩|⟨b,f,hl,rfl,hr,hb0,hf⟩
 ·exact ⟨rfl,rfl⟩
 ·refine ⟨rfl,?_⟩
  simp only [first',rowE_loads hr,List.drop_zero,Nat.mul_one]
  exact takeN_all _
theorem src_own {wb:Nat} {ds:List Value} {n c:Nat} (hw:h.own wb e ds) (hn:n=ds.length):SrcE h (.slice (some ⟨wb,0,none⟩) n c) ds:=by
 subst hn
 refine ⟨rfl,?_⟩
 simp only [first',loads_own hw,List.drop_zero,Nat.mul_one]
 exact takeN_all _
def GrownE (e:TypeId) (h:Hp) (n0 f0:Nat) (h':Hp):Prop:=(∀(S:Nat→Prop) (h0:Hp),ExtS S h0 h→h0.next≤n0→h0.nfam≤f0→ExtS S h0 h') ∧
 (∀b' e' c',e'≠e→h.own b' e' c'→h'.own b' e' c')∧h.next≤h'.next
def MoreE (h h':Hp):Prop:=h'.base=h.base∧h.nfam≤h'.nfam∧∀b' o,b'<h.next→h.objs.get b'=some o→(∀r,o≠.cells r)→h'.objs.get b'=some o
set_option maxRecDepth 10000 in
theorem ownE_appends2 {t:TypeId} {z x:Value} (hu:Try.prog.underlying t=some (.slice e)) (hs:sizeOf' Try.prog e=some 1) (hz:zero' Try.prog e=some z) (hzl:Nat.beq z.cells.toList.length 1=true∧0<1)
  (hby:(match Try.prog.info? e with|some i=>Nat.ble i.bytes 100000&&Nat.blt 0 i.bytes|none=>false)=true) (hni:noInt Try.prog [t]=true) {ds:List Value} (hx1:ds.all oneCell=true)
  {n0 f0:Nat} {cs:List Value} {v:Value} (k:OwnE e h n0 f0 cs v) (hw:SrcE h x ds) (hb:h.base≤h.next) (hn0:n0≤h.next) (hf0:f0≤h.nfam) (hsz:cs.length+ds.length≤1000000) :
  ∃v' h',append' Try.prog h [t,t] [v,x]=some (v',h')∧OwnE e h' n0 f0 (cs++ds) v'∧GrownE e h n0 f0 h'∧MoreE h h':=by
 obtain ⟨hln,hf1⟩:=hw
 by_cases hd:ds=[]
 ·subst hd
  refine ⟨v,h,?_,by rw [List.append_nil];exact k,⟨fun S h0 q _ _=>q,fun b' e' c' _ o=>o,Nat.le_refl _⟩,rfl,Nat.le_refl _,fun _ _ _ q _=>q⟩
  obtain ⟨A,rfl⟩:=k.len
  rw [append_of hu hs hz hzl hby h (len:=cs.length) (cap:=cs.length) (n:=0) hln hf1 (by simpa using hsz) (Nat.le_refl _) (by simp) rfl hni]
  have:Nat.ble (cs.length+0) cs.length=true:=by simp
  unfold apd
  rw [this]
  cases A with
  | none=>rfl
  | some a=>simp only [Hp.stores];rfl
 have hdl:0<ds.length:=List.length_pos_iff.2 hd
 rcases k with ⟨rfl,rfl⟩|⟨b,f,hl,rfl,hr,hb0,hf⟩
 ·have hx:=Ext.new h (CObj.cells { c:=ds,e:=e,fam:=0,base:=0,grown:=true })
  refine ⟨.slice (some ⟨h.next,0,none⟩) ds.length ds.length,h.newH (CObj.cells { c:=ds,e:=e,fam:=0,base:=0,grown:=true }),?_,?_,⟨fun S h0 q _ _=>q.trans hx.toS,fun b' e' c' _ o=>own_ext hx o,hx.next⟩,hx.base,hx.nfam,fun b' o hl q _=>by rw [hx.objs b' hl];exact q⟩
  ·rw [append_of hu hs hz hzl hby h (len:=0) (cap:=0) (n:=ds.length) hln hf1 (by simpa using hsz) (Nat.le_refl _) hx1 (by omega) hni]
   have:Nat.ble (0+ds.length) 0=false:=ble_false (by omega)
   simp only [apd,this,Hp.grownRow,new_eq]
  ·refine .inr ⟨h.next,0,by simpa using hd,by simp,⟨hb,Nat.lt_succ_self _,⟨0,true,?_⟩,fun e=>absurd rfl e⟩,hn0,fun e=>absurd rfl e⟩
   simp only [Hp.row,get_newH,if_true,List.nil_append]
 ·have hlen:0<cs.length:=List.length_pos_iff.2 hl
  obtain ⟨bs,g,hrow⟩:=hr.row
  have hld:h.loads ⟨b,0,none⟩ (cs.length*1)=some cs:=by
   rw [rowE_loads hr,List.drop_zero,Nat.mul_one]
   exact takeN_all _
  have hc:Nat.ble (cs.length+ds.length) cs.length=false:=ble_false (by omega)
  have hbeq:Nat.beq e e=true:=by simp
  have happ:append' Try.prog h [t,t] [.slice (some ⟨b,0,none⟩) cs.length cs.length,x]=apd h e 1 (some ⟨b,0,none⟩) cs.length cs.length ds.length ds :=
   append_of hu hs hz hzl hby h hln hf1 (by omega) (Nat.le_refl _) hx1 (by omega) hni
  have fin:∀(f':Nat) (h':Hp),apd h e 1 (some ⟨b,0,none⟩) cs.length cs.length ds.length ds=some (.slice (some ⟨h.next,0,none⟩) (cs.length+ds.length) (cs.length+ds.length),h')→RowE e h' h.next (cs++ds) f'→(f'=f∧f≠0∨f'=h.nfam)→h'.base=h.base→h'.ro=h.ro→h'.next=h.next+1→h.nfam≤h'.nfam→(∀y,y<h.next→y≠b→h'.objs.get y=h.objs.get y)→(∀q,q<h.nfam→¬(q=f∧f≠0)→h'.fams.get q=h.fams.get q) →
    ∃v' h',append' Try.prog h [t,t] [.slice (some ⟨b,0,none⟩) cs.length cs.length,x]=some (v',h')∧OwnE e h' n0 f0 (cs++ds) v'∧GrownE e h n0 f0 h'∧MoreE h h':=by
   intro f' h' a1 a2 a3 e1 e2 e3 e4 e5 e6
   have hf':f'≠0→f0≤f':=by
    intro c
    rcases a3 with ⟨rfl,q⟩|rfl
    ·exact hf q
    ·exact hf0
   refine ⟨_,h',by rw [happ,a1],.inr ⟨h.next,f',by simp [hl],by simp,a2,hn0,hf'⟩,⟨fun S h0 q q1 q2=>grow_extS q (Nat.le_trans q1 hb0) (fun c=>Nat.le_trans q2 (hf c)) e1 e2 e3 e4 e5 e6,fun b' e' c' hne o => ?_,by omega⟩,e1,e4,fun b' o hl q hno => ?_⟩
   ·have hbb:=rowE_ne hr o hne
    exact ⟨by rw [e1];exact o.1,by have:=o.2.1;omega,by rw [e5 b' o.2.1 hbb];exact o.2.2⟩
   ·rw [e5 b' hl (fun c => ?_)]
    ·exact q
    ·obtain ⟨row,o1,_⟩:=rowE_obj hr
     rw [←c,q] at o1
     injection o1 with o1
     exact hno _ o1
  cases hfe:f with
  | zero =>
    subst hfe
    refine fin h.nfam { h with
     objs:=(h.objs.put b (.cells ⟨cs,e,h.nfam,bs,g⟩)).put h.next (.cells ⟨cs++ds,e,h.nfam,bs+0,true⟩)
     next:=h.next+1
     fams:=h.fams.put h.nfam (⟨h.next,bs+0,bs+0+(cs++ds).length⟩::stays b bs (bs+cs.length) (bs+0+cs.length*1))
     nfam:=h.nfam+1 } ?_ ?_ (.inr rfl) rfl rfl rfl (Nat.le_succ _) ?_ ?_
    ·simp only [apd,hc,hrow,hld,grow',hbeq]
    ·refine ⟨by have:=hr.lo;have:=hr.lt;show h.base≤h.next;omega,Nat.lt_succ_self _,⟨bs+0,true,?_⟩,fun _=>Nat.lt_succ_self _⟩
     simp only [Hp.row,Tr.get_put,if_true]
     cases hnf:h.nfam with
     | zero=>rfl
     | succ q=>simp only [Tr.get_put,if_true,List.any_cons,beq_nat,Bool.true_or]
    ·intro x hx hxb
     simp only [Tr.get_put,if_neg (Nat.ne_of_lt hx),if_neg hxb]
    ·intro q hq _
     simp only [Tr.get_put,if_neg (Nat.ne_of_lt hq)]
  | succ q0 =>
    subst hfe
    have hfm:∃l,h.fams.get (q0+1)=some l:=by
     have hrow2:=hrow
     unfold Hp.row at hrow2
     split at hrow2
     ·rename_i r hg
      split at hrow2
      ·rename_i e0
       injection hrow2 with hrow2
       rw [hrow2] at e0
       cases e0
      ·rename_i f0' e0
       split at hrow2
       ·rename_i l hl0
        split at hrow2
        ·injection hrow2 with hrow2
         rw [hrow2] at e0
         have e1:q0+1=f0'+1:=e0
         exact ⟨l,by rw [e1];exact hl0⟩
        ·cases hrow2
       ·cases hrow2
     ·cases hrow2
    obtain ⟨l,hl0⟩:=hfm
    refine fin (q0+1) { h with
     objs:=h.objs.put h.next (.cells ⟨cs++ds,e,q0+1,bs+0,true⟩)
     next:=h.next+1
     fams:=h.fams.put (q0+1) (⟨h.next,bs+0,bs+0+(cs++ds).length⟩::l.filter fun m=>Nat.ble m.hi (bs+0+cs.length*1)) } ?_ ?_ (.inl ⟨rfl,by omega⟩) rfl rfl rfl (Nat.le_refl _) ?_ ?_
    ·simp only [apd,hc,hrow,hld,grow',hbeq,hl0]
    ·refine ⟨by have:=hr.lo;have:=hr.lt;show h.base≤h.next;omega,Nat.lt_succ_self _,⟨bs+0,true,?_⟩,fun e=>hr.fl e⟩
     simp only [Hp.row,Tr.get_put,if_true,List.any_cons,beq_nat,Bool.true_or]
    ·intro x hx _
     simp only [Tr.get_put,if_neg (Nat.ne_of_lt hx)]
    ·intro q hq hqf
     have:¬q=q0+1:=fun e=>hqf ⟨e,by omega⟩
     simp only [Tr.get_put,if_neg this]
theorem ownE_appends {t:TypeId} {z x:Value} (hu:Try.prog.underlying t=some (.slice e)) (hs:sizeOf' Try.prog e=some 1) (hz:zero' Try.prog e=some z) (hzl:Nat.beq z.cells.toList.length 1=true∧0<1)
  (hby:(match Try.prog.info? e with|some i=>Nat.ble i.bytes 100000&&Nat.blt 0 i.bytes|none=>false)=true) (hni:noInt Try.prog [t]=true) {ds:List Value} (hx1:ds.all oneCell=true)
  {n0 f0:Nat} {cs:List Value} {v:Value} (k:OwnE e h n0 f0 cs v) (hw:SrcE h x ds) (hb:h.base≤h.next) (hn0:n0≤h.next) (hf0:f0≤h.nfam) (hsz:cs.length+ds.length≤1000000) :
  ∃v' h',append' Try.prog h [t,t] [v,x]=some (v',h')∧OwnE e h' n0 f0 (cs++ds) v'∧GrownE e h n0 f0 h':=by
 obtain ⟨v',h',h1,h2,h3,_⟩:=ownE_appends2 hu hs hz hzl hby hni hx1 k hw hb hn0 hf0 hsz
 exact ⟨v',h',h1,h2,h3⟩
theorem apps25 {v x:Value} {n0 f0:Nat} {cs ds:List Value} (hx1:ds.all oneCell=true) (k:OwnE 9 h n0 f0 cs v) (hw:SrcE h x ds) (hb:h.base≤h.next) (hn0:n0≤h.next) (hf0:f0≤h.nfam) (hsz:cs.length+ds.length≤1000000) :
  ∃v' h',append' Try.prog h [25,25] [v,x]=some (v',h')∧OwnE 9 h' n0 f0 (cs++ds) v'∧GrownE 9 h n0 f0 h' :=
 ownE_appends (e:=9) (t:=25) Try.underlying25 sz9 z9 (by exact ⟨rfl,by decide⟩) (by kernel_rfl) (by kernel_rfl) hx1 k hw hb hn0 hf0 hsz
theorem apps25m {v x:Value} {n0 f0:Nat} {cs ds:List Value} (hx1:ds.all oneCell=true) (k:OwnE 9 h n0 f0 cs v) (hw:SrcE h x ds) (hb:h.base≤h.next) (hn0:n0≤h.next) (hf0:f0≤h.nfam) (hsz:cs.length+ds.length≤1000000) :
  ∃v' h',append' Try.prog h [25,25] [v,x]=some (v',h')∧OwnE 9 h' n0 f0 (cs++ds) v'∧GrownE 9 h n0 f0 h'∧MoreE h h' :=
 ownE_appends2 (e:=9) (t:=25) Try.underlying25 sz9 z9 (by exact ⟨rfl,by decide⟩) (by kernel_rfl) (by kernel_rfl) hx1 k hw hb hn0 hf0 hsz
end Go.Ev.G24
end
section
namespace Go.Ev.G24
open Go.RowKit Go.Proofs
variable {r:Ro} {bk m eb:Nat} {em:List Bool}
theorem pickN_len:∀(l:List Rule) (bs:List Bool),(pickN l bs).length≤l.length
 | [],bs=>by simp [pickN]
 | x::l,[]=>by simp [pickN]
 | x::l,b::bs=>by
   have:=pickN_len l bs
   cases b<;>simp [pickN]<;>omega
set_option maxHeartbeats 4000000 in
set_option maxRecDepth 10000 in
theorem named_c {l:List Rule} {Av:Option Addr} {c b o tb:Nat} {css:Nat→List Value} (R:RoRules r l Av c b o css) {is:List Bool} (hil:is.length=l.length) (h:Hp) (hrom:h.rom=r) (hb:h.base≤h.next)
  (hB:Book h bk m eb (.slice Av l.length c) (nms l) em) (hI:h.own tb 4 (is.map .bool)) :
  ∃v h1,Snd Try.prog 56 [.pointer (some ⟨bk,0,none⟩),.slice (some ⟨tb,0,none⟩) l.length l.length] h v h1∧Ext h h1∧OwnE 9 h1 h.next h.nfam ((pickN l is).map .string) v:=by
 refine snd_go wf Try.func56 rfl rfl (n:=30) rfl (by kernel_rfl) rfl ?_
 intro a hn hg
 have hr:Try.f56.results.toList=[.tmp 4]:=rfl
 have g0:=hg 0
 have g1:=hg 1
 clear hg
 simp only [List.getElem?_cons_zero,List.getElem?_cons_succ] at g0 g1
 simp -dsimp only [go_sem,g0,load_own hB.own]
 refine loop_go (n:=30) (by kernel_rfl) (fun m' a' h'=>∃(j:Nat) (v:Value),j≤l.length∧m'=l.length - j∧Ext h h'∧OwnE 9 h' h.next h.nfam ((pickN (l.take j) (is.take j)).map .string) v ∧
  a'.get 1=.slice (some ⟨tb,0,none⟩) l.length l.length∧a'.get 5=v∧a'.get 12=.slice Av l.length c∧a'.get 13=.int .i64 (l.length:Int)∧a'.get 14=.int .i64 (j:Int)) ?_ l.length _ _ (by simp -dsimp only [go_sem,hn]) ⟨0,.slice none 0 0,Nat.zero_le _,rfl,Ext.refl _,.inl ⟨by simp [pickN],rfl⟩,by simp -dsimp only [go_sem,g1],by simp -dsimp only [go_sem],by simp -dsimp only [go_sem],by simp -dsimp only [go_sem],by simp -dsimp only [go_sem];rfl⟩
 rintro m' a' h' hn' ⟨j,v,hj,rfl,hx,hO',e1,e5,e12,e13,e14⟩
 have hrom':h'.rom=r:=hx.rom.trans hrom
 have hb':h'.base≤h'.next:=by rw [hx.base];exact Nat.le_trans hb hx.next
 by_cases hlt:j<l.length
 rotate_left
 ·have hi0:decide ((j:Int)<(l.length:Int))=false:=decide_eq_false (by omega)
  have hjn:j=l.length:=by omega
  subst hjn
  rw [List.take_length,←hil,List.take_length] at hO'
  simp -dsimp only [go_sem,e5,e13,e14,hi0,hr]
  exact ⟨hx,hO'⟩
 have hi1:decide ((j:Int)<(l.length:Int))=true:=decide_eq_true (Int.ofNat_lt.2 hlt)
 have hpi:l[j]? = some l[j]:=List.getElem?_eq_getElem hlt
 obtain ⟨Av1,c1',hcs⟩:=(R.hk j _ hpi).shape
 have hat':=R.hat j _ hpi
 rw [hcs] at hat'
 have hAv:=R.hA (ne_nil hlt)
 subst hAv
 have hji:j<is.length:=by omega
 have hsn:=pickN_snoc l is j hlt hji
 obtain ⟨vS,vO,vX,vB,vR⟩:=var_ok hb' (e:=54) (c0:=[.string ⟨#[]⟩,.string ⟨#[]⟩,.string ⟨#[]⟩,.slice none 0 0]) (c1:=[.string l[j].name,.string l[j].body.d,.string l[j].body.t,.slice Av1 l[j].body.l.length c1']) rfl rfl (by simp)
 have hI':=own_ext (hx.trans vX) hI
 have hget:(is.map Value.bool)[j]? = some (.bool is[j]):=by simp [List.getElem?_eq_getElem hji]
 cases hm:is[j] with
 | false =>
   rw [hm] at hget hsn
   simp only [Bool.false_eq_true,if_false,List.append_nil] at hsn
   simp -dsimp only [go_sem,e1,e5,e12,e13,e14,hi1,ia22 hlt,ia105 hlt,loads_ro (n:=4) hrom' hat' rfl,vS,load_own hI',hget,wrap64_succ hlt (Nat.le_trans R.hb (by decide))]
   exact ⟨l.length - (j+1),by omega,j+1,v,hlt,rfl,hx.trans vX,by rw [hsn];exact hO'.ext vX,rfl,rfl⟩
 | true =>
   rw [hm] at hget hsn
   simp only [if_true] at hsn
   have hx3:=hx.trans vX
   have hX6:=Ext.new (h'.var 54 [.string ⟨#[]⟩,.string ⟨#[]⟩,.string ⟨#[]⟩,.slice none 0 0] [.string l[j].name,.string l[j].body.d,.string l[j].body.t,.slice Av1 l[j].body.l.length c1']) (CObj.cells ⟨[.string l[j].name],9,0,0,false⟩)
   have hW:=own_new vB 9 [.string l[j].name]
   have hx06:=hx3.trans hX6
   have hpl:=pickN_len (l.take j) (is.take j)
   have:=R.hb
   rw [List.length_take] at hpl
   obtain ⟨v',h7,ha7,hO7,hext7,hk7,hn7⟩:=apps25 (ds:=[.string l[j].name]) rfl ((hO'.ext vX).ext hX6) (src_own hW (n:=1) (c:=1) rfl) (by rw [hX6.base];exact Nat.le_trans vB hX6.next) hx06.next hx06.nfam (by rw [List.length_map];simp;omega)
   simp -dsimp only [go_sem,e1,e5,e12,e13,e14,hi1,ia22 hlt,ia105 hlt,loads_ro (n:=4) hrom' hat' rfl,vS,load_own vO,load_own hI',hget,bs25 1 (by decide),repeatN,builtin',ha7,wrap64_succ hlt (Nat.le_trans R.hb (by decide))]
   refine ⟨l.length - (j+1),by omega,j+1,v',hlt,rfl,(hext7 (fun _=>False) h (hx06.toS) (Nat.le_refl _) (Nat.le_refl _)).ext (fun _ _ c=>c),?_,rfl,rfl⟩
   rw [hsn,List.map_append]
   exact hO7
end Go.Ev.G24
end
section
namespace Go.Ev.G24
open Go.RowKit Go.Proofs
def itemT (s:ByteArray):Part:=⟨⟨#[105,116,101,109]⟩,s,[]⟩
def ruleT (t:ByteArray) (l:List Part):Part:=⟨⟨#[114,117,108,101]⟩,t,l⟩
def manyT (l:List Part):Part:=⟨⟨#[109,97,110,121]⟩,⟨#[]⟩,l⟩
inductive Task
 | part (p:Part) (q:Nat)
 | seq (l:List Part) (q:Nat) (acc:List Part)
 | alt (l:List Part) (q:Nat)
 | many (p:Part) (q:Nat) (acc:List Part)
abbrev Outc:=Option (List Part×Nat)×Nat×Nat
def bodyOf (G:List Rule) (t:ByteArray):Part:=match G[idxOf (nms G) t]? with
 | some x=>x.body
 | none=>⟨⟨#[]⟩,⟨#[]⟩,[]⟩
def oneO (items:List ByteArray) (w:Option ByteArray) (q:Nat):Outc:=match items[q]? with
 | some s=>if testB w s=true then (some ([itemT s],q+1),1,q) else (none,1,q)
 | none=>(none,1,q)
def plus1 (o:Outc):Outc:=(o.1,o.2.1+1,o.2.2)
def joinO (n f:Nat) (o:Outc):Outc:=(o.1,n+o.2.1,max f o.2.2)
def ruleO (t:ByteArray) (o:Outc):Outc:=(match o.1 with
 | some (ks,e)=>some ([ruleT t ks],e)
 | none=>none,o.2.1+1,o.2.2)
def optO (q:Nat) (o:Outc):Outc:=(match o.1 with
 | some x=>some x
 | none=>some ([],q),o.2.1+1,o.2.2)
def notO (q:Nat) (o:Outc):Outc:=(match o.1 with
 | some _=>none
 | none=>some ([],q),o.2.1+1,o.2.2)
def seqK (rc:Task→Option Outc) (l acc:List Part) (o:Outc):Option Outc:=match o.1 with
 | none=>some (none,o.2.1,o.2.2)
 | some (ks,e)=>(rc (.seq l e (acc++ks))).map (joinO o.2.1 o.2.2)
def altK (rc:Task→Option Outc) (l:List Part) (q:Nat) (o:Outc):Option Outc:=match o.1 with
 | some x=>some (some x,o.2.1,o.2.2)
 | none=>(rc (.alt l q)).map (joinO o.2.1 o.2.2)
def manyK (rc:Task→Option Outc) (x:Part) (q:Nat) (acc:List Part) (o:Outc):Option Outc:=match o.1 with
 | none=>some (some ([manyT acc],q),o.2.1,o.2.2)
 | some (ks,e)=>(rc (.many x e (acc++ks))).map (joinO o.2.1 o.2.2)
def head1 (rc:Task→Option Outc) (f:Part→Task) (l:List Part) (g:Outc→Outc):Option Outc:=match l with
 | x::_=>(rc (f x)).map g
 | []=>none
def stepP (G:List Rule) (items:List ByteArray) (rc:Task→Option Outc) (d t:ByteArray) (l:List Part) (q:Nat):Option Outc :=
 if d.data.toList=[105,115] then some (oneO items (some t) q)
 else if d.data.toList=[97,110,121] then some (oneO items none q)
 else if d.data.toList=[114,117,108,101] then (rc (.part (bodyOf G t) q)).map (ruleO t)
 else if d.data.toList=[115,101,113] then (rc (.seq l q [])).map plus1
 else if d.data.toList=[111,114] then (rc (.alt l q)).map plus1
 else if d.data.toList=[109,97,110,121] then head1 rc (fun x=>.many x q []) l plus1
 else if d.data.toList=[111,112,116] then head1 rc (fun x=>.part x q) l (optO q)
 else if d.data.toList=[110,111,116] then head1 rc (fun x=>.part x q) l (notO q)
 else some (some ([],q),1,0)
def stepT (G:List Rule) (items:List ByteArray) (rc:Task→Option Outc):Task→Option Outc
 | .part ⟨d,t,l⟩ q=>stepP G items rc d t l q
 | .seq [] q acc=>some (some (acc,q),0,0)
 | .seq (x::l) q acc=>(rc (.part x q)).bind (seqK rc l acc)
 | .alt [] q=>some (none,0,0)
 | .alt (x::l) q=>(rc (.part x q)).bind (altK rc l q)
 | .many x q acc=>(rc (.part x q)).bind (manyK rc x q acc)
def run (G:List Rule) (items:List ByteArray):Nat→Task→Option Outc
 | 0,_=>none
 | k+1,t=>stepT G items (run G items k) t
def Le (rc rc':Task→Option Outc):Prop:=∀t o,rc t=some o→rc' t=some o
variable {G:List Rule} {items:List ByteArray} {rc rc':Task→Option Outc}
theorem Le.map (h:Le rc rc') {t:Task} {f:Outc→Outc} {o:Outc} (k:(rc t).map f=some o):(rc' t).map f=some o:=by
 rw [Option.map_eq_some_iff] at k ⊢
 obtain ⟨x,h1,h2⟩:=k
 exact ⟨x,h t x h1,h2⟩
theorem Le.head1 (h:Le rc rc') {f:Part→Task} {l:List Part} {g:Outc→Outc} {o:Outc} (k:head1 rc f l g=some o):head1 rc' f l g=some o:=by
 cases l with
 | nil=>cases k
 | cons x l=>exact h.map k
theorem Le.bind (h:Le rc rc') {t:Task} {f f':Outc→Option Outc} (hf:∀x o,f x=some o→f' x=some o) {o:Outc} (k:(rc t).bind f=some o):(rc' t).bind f'=some o:=by
 rw [Option.bind_eq_some_iff] at k ⊢
 obtain ⟨x,h1,h2⟩:=k
 exact ⟨x,h t x h1,hf x o h2⟩
theorem few_of {d t:ByteArray} {l:List Part} (hl:l.length≤100000) (h:∀p∈l,Few p):Few ⟨d,t,l⟩:=.mk _ _ _ hl (fun i p e=>h p (List.mem_of_getElem? e))
end Go.Ev.G24
end
section
namespace Go.Ev.G24
open Go.RowKit Go.Proofs
variable {h h1 h2:Hp} {B F B' F':Nat→Prop}
def NoRow (h:Hp) (S:Nat→Prop):Prop:=∀b cs f,RowAt h b cs f→¬S b
theorem rowAt_obj {b:Nat} {cs:List Value} {f:Nat} (k:RowAt h b cs f):∃r,h.objs.get b=some (.cells r)∧r.e=31:=by
 have:RowE 31 h b cs f:=⟨k.lo,k.lt,k.row,k.fl⟩
 exact rowE_obj this
theorem noRow_own {b:Nat} {e:TypeId} {c:List Value} (o:h.own b e c) (he:e≠31):NoRow h (Only b):=by
 intro b' cs f k hb
 have hb':b'=b:=hb
 subst hb'
 obtain ⟨r,h1,h2⟩:=rowAt_obj k
 rw [o.2.2] at h1
 injection h1 with h1
 injection h1 with h1
 rw [←h1] at h2
 exact he h2
theorem keepsN {S:Nat→Prop} (x:ExtS S h h1) (n:NoRow h S):Keeps (fun _=>False) (fun _=>False) h h1 :=
 ⟨x.base,x.ro,x.next,x.nfam,fun b cs f k _ _=>(keepsS x).rows b cs f k (n b cs f k) (fun c=>c)⟩
theorem Keeps.any (x:Keeps (fun _=>False) (fun _=>False) h h1):Keeps B F h h1:=x.mono (fun _ _ c=>c.elim) (fun _ _ _ c=>c.elim) (fun c=>c)
theorem Mine.slice {n0 f0:Nat} {l:List Part} {v:Value} (M:Mine h n0 f0 B F l v):∃A n c,v=.slice A n c∧spotless A=true:=by
 rcases M with ⟨_,rfl⟩|⟨_,_,_,_,_,rfl,_⟩<;>exact ⟨_,_,_,rfl,rfl⟩
theorem KidsAt.slice {l:List Part} {v:Value} (k:KidsAt h B F l v):∃A c,v=.slice A l.length c∧spotless A=true:=by
 obtain ⟨Av,c,b,o,f,row,css,rfl,hc,hs,_⟩:=k
 exact ⟨Av,c,rfl,hs⟩
end Go.Ev.G24
end
section
namespace Go.Ev.G24
open Go.RowKit Go.Proofs
variable {r:Ro} {G:List Rule} {items:List ByteArray} {Gv Iv:Option Addr} {gc ic xb:Nat}
def low (s:Int):Int:=if s<0 then s - 1 else -((s+1)*100001)
def pRow (G:List Rule) (items:List ByteArray) (Gv Iv:Option Addr) (gc ic far:Nat) (s:Int):List Value:=[.slice Gv G.length gc,.slice Iv items.length ic,.int .i64 (far:Int),.int .i64 s]
def ResV (h:Hp) (B F:Nat→Prop) (o:Option (List Part×Nat)) (v:Value):Prop:=match o with
 | some (ks,e)=>∃kv,v=.tuple #[kv,.int .i64 (e:Int),.bool true]∧KidsAt h B F ks kv
 | none=>∃A n c e,v=.tuple #[.slice A n c,.int .i64 e,.bool false]∧spotless A=true
def RefL (G:List Rule) (items:List ByteArray) (Gv Iv:Option Addr) (gc ic xb:Nat) (t:Task) (far:Nat) (s lb:Int) (h:Hp) (v:Value) (h1:Hp):Prop:=∃(far':Nat) (s':Int),ExtS (Only xb) h h1∧h1.own xb 71 (pRow G items Gv Iv gc ic far' s')∧far'≤items.length ∧
 ((∃k o,run G items k t=some o∧s'=s - (o.2.1:Int)∧0≤s'∧far'=max far o.2.2∧ResV h1 (fun b=>b<h.next) (fun f=>f≠0∧f<h.nfam) o.1 v) ∨
   (s'<0∧lb≤s'∧∃A n c e,v=.tuple #[.slice A n c,.int .i64 e,.bool false]∧spotless A=true))
theorem ResV.more {h:Hp} {B F B' F':Nat→Prop} (hB:∀b,b<h.next→B' b→B b) (hF:∀f,F' f→F f∨(f≠0∧h.nfam≤f)) {o:Option (List Part×Nat)} {v:Value} (k:ResV h B F o v):ResV h B' F' o v:=by
 cases o with
 | none=>exact k
 | some x =>
   obtain ⟨kv,h1,h2⟩:=k
   exact ⟨kv,h1,h2.more hB hF⟩
theorem RefL.pre {t:Task} {far:Nat} {s lb:Int} {h h2:Hp} {v:Value} {h1:Hp} (x:Ext h h2) (k:RefL G items Gv Iv gc ic xb t far s lb h2 v h1):RefL G items Gv Iv gc ic xb t far s lb h v h1:=by
 obtain ⟨far',s',a1,a2,a3,a4⟩:=k
 refine ⟨far',s',x.toS.trans a1,a2,a3,?_⟩
 rcases a4 with ⟨k,o,b1,b2,b3,b4,b5⟩|b
 ·exact .inl ⟨k,o,b1,b2,b3,b4,b5.more (fun b _ c=>Nat.lt_of_lt_of_le c x.next) (fun f c=>.inl ⟨c.1,Nat.lt_of_lt_of_le c.2 x.nfam⟩)⟩
 ·exact .inr b
end Go.Ev.G24
end
section
namespace Go.Ev.G24
open Go.RowKit Go.Proofs
variable {G:List Rule} {items:List ByteArray} {h h1 h2:Hp} {B F B' F':Nat→Prop}
def keyV (i q:Nat):Value:=.agg #[.int .i64 (i:Int),.int .i64 (q:Int)]
theorem sh145:Try.prog.stoodInHeld 145=false:=by kernel_rfl
theorem int_beq (a b:Nat):intEq (a:Int) (b:Int)=decide (a=b):=by
 have h:intEq (a:Int) (b:Int)=decide ((a:Int)=(b:Int)):=intEq_dec _ _
 rw [h,decide_eq_decide]
 omega
theorem n1rule:("rule" == "_")=false:=by decide
theorem n1place:("place" == "_")=false:=by decide
set_option maxRecDepth 10000 in
theorem eqv_key (h:Hp) (i q j p:Nat):eqv Try.prog h 40 145 (keyV i q) (keyV j p)=some (decide (i=j)&&decide (q=p)):=by
 simp only [eqv,keyV,Try.underlying145,sh145,List.foldr,part,Try.underlying3,n1rule,n1place,kindEq,List.getElem?_cons_zero,List.getElem?_cons_succ]
 simp only [int_beq]
 by_cases c1:i=j<;>by_cases c2:q=p<;>simp [c1,c2]
set_option maxRecDepth 10000 in
theorem keyOk_key (i q:Nat):keyOk Try.prog 40 145 (keyV i q)=true:=by
 simp only [keyOk,keyV,Try.underlying145,part,Try.underlying3,List.all_cons,List.all_nil,n1rule,n1place,List.getElem?_cons_zero,List.getElem?_cons_succ,Bool.and_true]
abbrev Memo:=List (Nat×Nat×Value)
def MemoAt (h:Hp) (m:Nat) (l:Memo):Prop:=m<h.next∧∃es n,h.objs.get m=some (.map es n)∧es.map (fun e=>(e.key,e.val))=l.map (fun x=>(keyV x.1 x.2.1,x.2.2))
def findM:Memo→Nat→Nat→Nat→Option (Nat×Value)
 | [],_,_,_=>none
 | (j,p,v)::l,i,q,k=>if i=j∧q=p then some (k,v) else findM l i q (k+1)
theorem find_memo (h:Hp) (i q:Nat):∀(l:Memo) (es:List MapEntry) (k:Nat),es.map (fun e=>(e.key,e.val))=l.map (fun x=>(keyV x.1 x.2.1,x.2.2))→find' Try.prog h 145 (keyV i q) es k=some (findM l i q k)
 | [],[],k,_=>rfl
 | [],e::es,k,hh=>by simp at hh
 | x::l,[],k,hh=>by simp at hh
 | (j,p,v)::l,e::es,k,hh=>by
   simp only [List.map_cons,List.cons.injEq,Prod.mk.injEq] at hh
   obtain ⟨⟨h1,h2⟩,h3⟩:=hh
   simp only [find',h1,eqv_key,findM]
   by_cases c:i=j∧q=p
   ·rw [if_pos c,c.1,c.2]
    simp [h2]
   ·rw [if_neg c]
    have:(decide (i=j)&&decide (q=p))=false:=by
     rw [Bool.eq_false_iff]
     intro e
     rw [Bool.and_eq_true] at e
     exact c ⟨of_decide_eq_true e.1,of_decide_eq_true e.2⟩
    rw [this]
    exact find_memo h i q l es (k+1) h3
theorem MemoAt.extS {S:Nat→Prop} (x:ExtS S h h1) {m:Nat} {l:Memo} (k:MemoAt h m l) (hm:¬S m):MemoAt h1 m l :=
 ⟨Nat.lt_of_lt_of_le k.1 x.next,by rw [x.objs m k.1 hm];exact k.2⟩
theorem MemoAt.lookup {m:Nat} {l:Memo} (k:MemoAt h m l) (i q:Nat):lookup' Try.prog h 126 (.map (some m)) (keyV i q) true =
  some (match findM l i q 0 with|some x=>.tuple #[x.2,.bool true]|none=>.tuple #[.agg #[.bool false,.int .i64 0,.slice none 0 0],.bool false]):=by
 obtain ⟨hm,es,n,ho,he⟩:=k
 have hmm:h.map? m=some (es,n):=by simp only [Hp.map?,ho]
 simp only [lookup',Try.underlying126,entriesOf,hmm,keyOk_key,find_memo h i q l es 0 he]
 cases findM l i q 0 with
 | none=>simp only [z75,if_true]
 | some x=>simp only [if_true]
def OutV (h:Hp) (B F:Nat→Prop) (o:Option (List Part×Nat)) (v:Value):Prop:=match o with
 | none=>v=.agg #[.bool false,.int .i64 0,.slice none 0 0]
 | some (ks,e)=>∃kv,v=.agg #[.bool true,.int .i64 (e:Int),kv]∧KidsAt h B F ks kv
theorem OutV.keep (x:Keeps B F h h1) {o:Option (List Part×Nat)} {v:Value} (k:OutV h B F o v):OutV h1 B F o v:=by
 cases o with
 | none=>exact k
 | some y=>obtain ⟨kv,h1,h2⟩:=k;exact ⟨kv,h1,h2.keep x⟩
theorem OutV.more (hB:∀b,b<h.next→B' b→B b) (hF:∀f,F' f→F f∨(f≠0∧h.nfam≤f)) {o:Option (List Part×Nat)} {v:Value} (k:OutV h B F o v):OutV h B' F' o v:=by
 cases o with
 | none=>exact k
 | some y=>obtain ⟨kv,h1,h2⟩:=k;exact ⟨kv,h1,h2.more hB hF⟩
def Good (G:List Rule) (items:List ByteArray) (h:Hp) (B F:Nat→Prop) (far:Nat) (x:Nat×Nat×Value):Prop :=
 ∃(y:Rule) (k:Nat) (o:Outc),G[x.1]? = some y∧run G items k (.part y.body x.2.1)=some o∧o.2.2≤far∧OutV h B F (ruleO y.name o).1 x.2.2
structure MemoOk (G:List Rule) (items:List ByteArray) (h:Hp) (B F:Nat→Prop) (far m:Nat) (l:Memo):Prop where
 at':MemoAt h m l
 good:∀x∈l,Good G items h B F far x
theorem Good.keep (x:Keeps B F h h1) {far far':Nat} (hf:far≤far') {e:Nat×Nat×Value} (k:Good G items h B F far e):Good G items h1 B F far' e:=by
 obtain ⟨y,k,o,a1,a2,a3,a4⟩:=k
 exact ⟨y,k,o,a1,a2,Nat.le_trans a3 hf,a4.keep x⟩
theorem Good.more (hB:∀b,b<h.next→B' b→B b) (hF:∀f,F' f→F f∨(f≠0∧h.nfam≤f)) {far:Nat} {e:Nat×Nat×Value} (k:Good G items h B F far e):Good G items h B' F' far e:=by
 obtain ⟨y,k,o,a1,a2,a3,a4⟩:=k
 exact ⟨y,k,o,a1,a2,a3,a4.more hB hF⟩
theorem MemoOk.extS {S:Nat→Prop} (x:ExtS S h h1) (n:NoRow h S) {far far' m:Nat} {l:Memo} (k:MemoOk G items h B F far m l) (hm:¬S m) (hf:far≤far'):MemoOk G items h1 B F far' m l :=
 ⟨k.at'.extS x hm,fun e he=>(k.good e he).keep (keepsN x n).any hf⟩
theorem MemoOk.more (hB:∀b,b<h.next→B' b→B b) (hF:∀f,F' f→F f∨(f≠0∧h.nfam≤f)) {far m:Nat} {l:Memo} (k:MemoOk G items h B F far m l):MemoOk G items h B' F' far m l :=
 ⟨k.at',fun e he=>(k.good e he).more hB hF⟩
def Two (a b:Nat):Nat→Prop:=fun x=>x=a∨x=b
end Go.Ev.G24
end
section
namespace Go.Ev.G24
open Go.RowKit Go.Proofs
variable {r:Ro} {G:List Rule} {items:List ByteArray} {Gv Iv:Option Addr} {gc ic xb mm bk m eb:Nat} {em:List Bool} {h h1 h2:Hp} {B F B' F':Nat→Prop}
structure Bnd (h:Hp) (B F:Nat→Prop):Prop where
 b:∀x,B x→x<h.next
 f:∀q,F q→q≠0∧q<h.nfam
theorem Bnd.mono {S:Nat→Prop} (x:ExtS S h h1) (k:Bnd h B F):Bnd h1 B F:=⟨fun b c=>Nat.lt_of_lt_of_le (k.b b c) x.next,fun q c=>⟨(k.f q c).1,Nat.lt_of_lt_of_le (k.f q c).2 x.nfam⟩⟩
def TakeP (G:List Rule) (items:List ByteArray) (B F:Nat→Prop) (bk:Nat) (Iv:Option Addr) (ic mm xb:Nat) (o:Outc) (far:Nat) (h:Hp) (v:Value) (h1:Hp):Prop:=∃memo',ExtS (Two xb mm) h h1∧h1.own xb 128 (runRow bk Iv items.length ic mm (max far o.2.2))∧MemoOk G items h1 B F (max far o.2.2) mm memo'∧OutV h1 B F o.1 v
theorem Book.two (k:Book h bk m eb (.slice Gv G.length gc) (nms G) em) (hX:∃c,h.own xb 128 c) (hM:∃es n,h.objs.get mm=some (.map es n)) (hne:m≠mm) (x:ExtS (Two xb mm) h h1):Book h1 bk m eb (.slice Gv G.length gc) (nms G) em:=by
 obtain ⟨c,hX⟩:=hX
 obtain ⟨es,n,hM⟩:=hM
 refine k.extS x ?_ ?_ ?_
 ·rintro (c|c)
  ·have:=k.own.2.2;rw [c,hX.2.2] at this;simp at this
  ·have:=k.own.2.2;rw [c,hM] at this;simp at this
 ·rintro (c|c)
  ·have:=k.map.2;rw [c,hX.2.2] at this;simp at this
  ·exact hne c
 ·rintro (c|c)
  ·have:=k.row.2.2;rw [c,hX.2.2] at this;simp at this
  ·have:=k.row.2.2;rw [c,hM] at this;simp at this
theorem MemoAt.map {l:Memo} (k:MemoAt h mm l):∃es n,h.objs.get mm=some (.map es n):=by
 obtain ⟨_,es,n,h1,_⟩:=k
 exact ⟨es,n,h1⟩
theorem TakeP.put {o:Outc} {far:Nat} {v:Value} {b:Nat} {e:TypeId} {c c1:List Value} (k:TakeP G items B F bk Iv ic mm xb o far h v h1) (hb:h.next≤b) (ho:h1.own b e c) (he:e≠31) (hxb:xb<h.next) (hmm:mm<h.next):TakeP G items B F bk Iv ic mm xb o far h v (h1.put b (.cells ⟨c1,e,0,0,false⟩)):=by
 obtain ⟨memo',a1,a2,a3,a4⟩:=k
 have x:ExtS (Only b) h1 (h1.put b (.cells ⟨c1,e,0,0,false⟩)):=((Ext.refl h1).toS (S:=Only b)).put (b:=b) (.inr rfl) _
 have n:=noRow_own ho he
 exact ⟨memo',a1.put (.inl hb) _,own_extS x a2 (by show xb≠b;omega),a3.extS x n (by show mm≠b;omega) (Nat.le_refl _),a4.keep (keepsN x n).any⟩
theorem TakeP.pre {S:Nat→Prop} {o:Outc} {far:Nat} {v:Value} (x:ExtS (Two xb mm) h h2) (k:TakeP G items B F bk Iv ic mm xb o far h2 v h1):TakeP G items B F bk Iv ic mm xb o far h v h1:=by
 obtain ⟨memo',a1,a2,a3,a4⟩:=k
 exact ⟨memo',x.trans a1,a2,a3,a4⟩
end Go.Ev.G24
end
section
namespace Go.Ev.G24
open Go.RowKit Go.Proofs
variable {r:Ro} {G:List Rule} {items:List ByteArray} {Gv Iv:Option Addr} {gc ic xb mm bk m eb:Nat} {em:List Bool} {B F:Nat→Prop}
end Go.Ev.G24
end
section
namespace Go.Ev.G24
open Go.RowKit Go.Proofs
variable {r:Ro} {G:List Rule} {items:List ByteArray} {Gv Iv:Option Addr} {gc ic xb mm bk m eb:Nat} {em:List Bool} {B F:Nat→Prop}
end Go.Ev.G24
end
section
namespace Go.Ev.G24
open Go.RowKit Go.Proofs
variable {r:Ro} {G:List Rule} {items:List ByteArray} {Gv Iv:Option Addr} {gc ic xb mm bk m eb:Nat} {em:List Bool} {B F:Nat→Prop}
end Go.Ev.G24
end
section
namespace Go.Ev.G24
open Go.RowKit Go.Proofs
variable {r:Ro} {G:List Rule} {items:List ByteArray} {Gv Iv:Option Addr} {gc ic xb mm bk m eb:Nat} {em:List Bool} {B F:Nat→Prop}
theorem OutV.shape {h:Hp} {o:Option (List Part×Nat)} {v:Value} (k:OutV h B F o v):∃e A n c,v=.agg #[.bool o.isSome,.int .i64 e,.slice A n c]∧spotless A=true:=by
 cases o with
 | none=>exact ⟨_,_,_,_,k,rfl⟩
 | some w =>
   obtain ⟨kv,e5,e6⟩:=k
   obtain ⟨A9,c9,e7,e8⟩:=e6.slice
   exact ⟨_,_,_,_,by rw [e5,e7];rfl,e8⟩
end Go.Ev.G24
end
section
namespace Go.Ev.G24
open Go.RowKit Go.Proofs
variable {r:Ro} {G:List Rule} {items:List ByteArray} {Gv Iv:Option Addr} {gc ic xb:Nat}
end Go.Ev.G24
end
section
namespace Go.Ev.G24
open Go.RowKit Go.Proofs
variable {r:Ro} {G:List Rule} {items:List ByteArray} {Gv Iv:Option Addr} {gc ic xb:Nat}
end Go.Ev.G24
end
section
namespace Go.Ev.G24
open Go.RowKit Go.Proofs
variable {r:Ro} {G:List Rule} {items:List ByteArray} {Gv Iv:Option Addr} {gc ic xb mm bk m eb:Nat} {em:List Bool} {B F:Nat→Prop}
end Go.Ev.G24
end
section
namespace Go.Ev.G24
open Go.RowKit Go.Proofs
variable {r:Ro} {G:List Rule} {items:List ByteArray} {Gv Iv:Option Addr} {gc ic xb:Nat}
theorem map_some {o:Outc} {f:Outc→Outc} {x:Option Outc} (h:x=some o):x.map f=some (f o):=by rw [h];rfl
end Go.Ev.G24
end
section
namespace Go.Ev.G24
open Go.RowKit Go.Proofs
variable {r:Ro} {G:List Rule} {items:List ByteArray} {Gv Iv:Option Addr} {gc ic xb:Nat}
def ruleP (s:ByteArray):Part:=⟨⟨#[114,117,108,101]⟩,s,[]⟩
theorem ro_ruleP (r:Ro) (s:ByteArray):RoPart r (ruleP s) [.string ⟨#[114,117,108,101]⟩,.string s,.slice none 0 0] :=
 .mk _ _ [] none 0 0 0 (fun _=>[]) (Nat.le_refl _) (Nat.zero_le _) (fun e=>absurd rfl e) (fun i p e=>by simp at e) (fun i p e=>by simp at e) rfl
end Go.Ev.G24
end
section
namespace Go.Ev.G24
open Go.RowKit Go.Proofs
variable {r:Ro} {G:List Rule} {items:List ByteArray} {Gv Iv:Option Addr} {gc ic:Nat}
end Go.Ev.G24
end
section
namespace Go.Ev.G24
open Go.RowKit Go.Proofs
variable {r:Ro} {G:List Rule} {items:List ByteArray} {Gv Iv:Option Addr} {gc ic:Nat}
end Go.Ev.G24
end
section
namespace Go.Ev.G24
open Go.RowKit Go.Proofs
variable {G:List Rule}
theorem iter_add {α:Type} (f:α→α) (a:Nat):∀(b:Nat) (x:α),iter f (a+b) x=iter f b (iter f a x)
 | 0,x=>rfl
 | b+1,x=>by show f (iter f (a+b) x)=f (iter f b (iter f a x));rw [iter_add f a b x]
theorem iter_fix {α:Type} (f:α→α) {x:α} (h:f x=x):∀b:Nat,iter f b x=x
 | 0=>rfl
 | b+1=>by show f (iter f b x)=x;rw [iter_fix f h b,h]
theorem Found.uniq {l:List Rule} {em em':List Bool} (h:Found l em) (h':Found l em'):em=em':=by
 obtain ⟨⟨k,hk⟩,hf⟩:=h
 obtain ⟨⟨k',hk'⟩,hf'⟩:=h'
 rcases Nat.le_total k k' with c|c
 ·obtain ⟨d,rfl⟩:=Nat.le.dest c
  rw [iter_add,←hk,iter_fix _ hf d] at hk'
  exact hk'.symm
 ·obtain ⟨d,rfl⟩:=Nat.le.dest c
  rw [iter_add,←hk',iter_fix _ hf' d] at hk
  exact hk
mutual
theorem partsB_pos (most:Nat):∀(p:Part) (deep:Nat),1≤partsB most deep p
 | ⟨d,t,l⟩,deep=>by
   unfold partsB
   split
   ·omega
   split
   ·omega
   split
   ·omega
   exact Nat.le_trans (Nat.le_refl 1) (partsL_ge most l (deep - 1) 1)
theorem partsL_ge (most:Nat):∀(l:List Part) (deep n:Nat),n≤partsL most deep l n
 | [],deep,n=>by unfold partsL;exact Nat.le_refl _
 | x::l,deep,n=>by
   unfold partsL
   split
   ·exact Nat.le_trans (Nat.le_add_right _ _) (partsL_ge most l deep _)
   ·exact Nat.le_refl _
end
theorem partsL_in (most:Nat):∀(l:List Part) (deep n:Nat),partsL most deep l n≤most→n+l.length≤most∧∀x∈l,partsB most deep x≤most
 | [],deep,n,h=>by unfold partsL at h;exact ⟨by simpa using h,fun x hx=>by simp at hx⟩
 | y::l,deep,n,h=>by
   unfold partsL at h
   split at h
   ·obtain ⟨h1,h2⟩:=partsL_in most l deep _ h
    have:=partsB_pos most y deep
    refine ⟨by rw [List.length_cons];omega,fun x hx => ?_⟩
    rcases List.mem_cons.1 hx with rfl|hx
    ·omega
    ·exact h2 x hx
   ·rename_i c
    exact absurd h c
theorem size_list (s:ByteArray):s.data.toList.length=s.size:=by rw [Array.length_toList];rfl
mutual
theorem parts_fit (most:Nat) (hm:most≤1000):∀(p:Part) (deep:Nat),partsB most deep p≤most→fits p∧Few p
 | ⟨d,t,l⟩,deep,h=>by
   unfold partsB at h
   split at h
   ·omega
   split at h
   ·omega
   rename_i ht
   split at h
   ·omega
   obtain ⟨h1,h2⟩:=partsL_in most l (deep - 1) 1 h
   obtain ⟨h3,h4⟩:=partsL_fit most hm l (deep - 1) h2
   rw [size_list] at ht
   refine ⟨by unfold fits;exact ⟨by omega,h3⟩,.mk d t l (by omega) (fun i p hp=>h4 p (List.mem_of_getElem? hp))⟩
theorem partsL_fit (most:Nat) (hm:most≤1000):∀(l:List Part) (deep:Nat),(∀x∈l,partsB most deep x≤most)→fitsL l∧∀x∈l,Few x
 | [],deep,h=>⟨by unfold fitsL;trivial,fun x hx=>by simp at hx⟩
 | y::l,deep,h=>by
   obtain ⟨h1,h2⟩:=parts_fit most hm y deep (h y (.head _))
   obtain ⟨h3,h4⟩:=partsL_fit most hm l deep (fun x hx=>h x (.tail _ hx))
   refine ⟨by unfold fitsL;exact ⟨h1,h3⟩,fun x hx => ?_⟩
   rcases List.mem_cons.1 hx with rfl|hx
   ·exact h2
   ·exact h4 x hx
end
theorem smallL_ge (most:Nat):∀(l:List Rule) (n z:Nat),smallL most l n=some z→n≤z
 | [],n,z,h=>by unfold smallL at h;injection h with h;omega
 | x::l,n,z,h=>by
   unfold smallL at h
   split at h
   ·split at h
    ·cases h
    ·have:=smallL_ge most l _ z h
     omega
   ·injection h with h;omega
theorem smallL_in (most:Nat):∀(l:List Rule) (n z:Nat),smallL most l n=some z→z≤most→∀x∈l,x.name.data.toList.length≤200∧partsB most 40 x.body≤most
 | [],n,z,_,_=>fun x hx=>by simp at hx
 | y::l,n,z,h,hz=>by
   unfold smallL at h
   split at h
   ·split at h
    ·cases h
    ·rename_i hc
     have h1:=smallL_ge most l _ z h
     have h2:=smallL_in most l _ z h hz
     intro x hx
     rcases List.mem_cons.1 hx with rfl|hx
     ·exact ⟨by omega,by omega⟩
     ·exact h2 x hx
   ·injection h with h;omega
theorem small_fit {most:Nat} (hm:most≤1000) (h:smallB most G=true):G.length≤30∧fitsG G∧∀(i:Nat) (x:Rule),G[i]? = some x→Few x.body:=by
 unfold smallB at h
 split at h
 ·cases h
 ·rename_i z hz
  rw [Bool.and_eq_true] at h
  have h1:=of_decide_eq_true h.1
  have h2:=of_decide_eq_true h.2
  have h3:=smallL_in most G 0 z hz h1
  refine ⟨h2,fun i x hx => ?_,fun i x hx=>(parts_fit most hm x.body 40 (h3 x (List.mem_of_getElem? hx)).2).2⟩
  obtain ⟨a1,a2⟩:=h3 x (List.mem_of_getElem? hx)
  rw [size_list] at a1
  exact ⟨by omega,(parts_fit most hm x.body 40 a2).1⟩
end Go.Ev.G24
end
section
namespace Go.Ev.G24
open Go.RowKit Go.Proofs
variable {r:Ro}
def NamesP (ok:Prop) (ns:List Bool→List ByteArray) (l:List Rule) (h:Hp) (v:Value) (h1:Hp):Prop:=Ext h h1 ∧
 ((ok∧∃(em:List Bool) (nv:Value),Found l em∧v=.tuple #[nv,.int .i64 0]∧OwnE 9 h1 h.next h.nfam ((ns em).map .string) nv)∨(¬ok∧v=.tuple #[.slice none 0 0,.int .i64 240]))
theorem OwnE.lower {e:TypeId} {h:Hp} {n0 f0 n1 f1:Nat} {cs:List Value} {v:Value} (k:OwnE e h n0 f0 cs v) (h1:n1≤n0) (h2:f1≤f0):OwnE e h n1 f1 cs v:=by
 rcases k with k|⟨b,f,hl,e1,hr,hb,hf⟩
 ·exact .inl k
 ·exact .inr ⟨b,f,hl,e1,hr,Nat.le_trans h1 hb,fun c=>Nat.le_trans h2 (hf c)⟩
set_option maxHeartbeats 4000000 in
set_option maxRecDepth 10000 in
theorem recursiveL_c {l:List Rule} {Av:Option Addr} {c b o:Nat} {css:Nat→List Value} (R:RoRules r l Av c b o css) (hft:fitsG l) (h:Hp) (hrom:h.rom=r) (hb:h.base≤h.next) :
  ∃v h1,Snd Try.prog 28 [.agg #[.slice Av l.length c]] h v h1∧NamesP (rightG l=true) (fun em=>pickN l (recB l em)) l h v h1:=by
 refine snd_go wf Try.func28 rfl rfl (n:=14) rfl (by kernel_rfl) rfl ?_
 intro a hn hg
 have hr:Try.f28.results.toList=[.tmp 2,.tmp 3]:=rfl
 have g0:=hg 0
 clear hg
 simp only [List.getElem?_cons_zero,List.getElem?_cons_succ] at g0
 have hP:=own_new hb 24 [.slice Av l.length c]
 have hx0:=Ext.new h (CObj.cells ⟨[.slice Av l.length c],24,0,0,false⟩)
 simp -dsimp only [go_sem,g0,loads_own hP]
 generalize h.newH (CObj.cells ⟨[.slice Av l.length c],24,0,0,false⟩)=h2 at hP hx0 ⊢
 have hb2:h2.base≤h2.next:=by rw [hx0.base];exact Nat.le_trans hb hx0.next
 have hrom2:h2.rom=r:=hx0.rom.trans hrom
 obtain ⟨_,h3,hs3,rfl,hx3⟩:=Right_c R hft h2 hrom2 hb2
 refine ⟨_,h3,hs3,?_⟩
 cases hrg:rightG l with
 | false =>
   simp -dsimp only [go_sem,hr,Bool.not_false]
   exact ⟨hx0.trans hx3,.inr ⟨by simp,rfl⟩⟩
 | true =>
   obtain ⟨hfr,hnm⟩:=rightG_named hrg
   have hb3:h3.base≤h3.next:=by rw [hx3.base];exact Nat.le_trans hb2 hx3.next
   simp -dsimp only [go_sem,Bool.not_true,loads_own (own_ext hx3 hP)]
   obtain ⟨_,h4,hs4,hx4,bk,m,eb,em,rfl,_,_,_,hB,hF⟩:=open_c R hfr hnm h3 (hx3.rom.trans hrom2) hb3
   refine ⟨_,h4,hs4,?_⟩
   have hrom4:h4.rom=r:=hx4.rom.trans (hx3.rom.trans hrom2)
   have hb4:h4.base≤h4.next:=by rw [hx4.base];exact Nat.le_trans hb3 hx4.next
   try simp -dsimp only [go_sem]
   obtain ⟨_,h5,hs5,hx5,ob,rfl,_,hI⟩:=recursive_c R hnm h4 hrom4 hb4 hB
   refine ⟨_,h5,hs5,?_⟩
   have hb5:h5.base≤h5.next:=by rw [hx5.base];exact Nat.le_trans hb4 hx5.next
   try simp -dsimp only [go_sem]
   obtain ⟨v6,h6,hs6,hx6,hO⟩:=named_c R (is:=recB l em) (recB_len l em) h5 (hx5.rom.trans hrom4) hb5 (hB.ext hx5) hI
   refine ⟨_,h6,hs6,?_⟩
   simp -dsimp only [go_sem,hr]
   have hx05:=hx0.trans (hx3.trans (hx4.trans hx5))
   exact ⟨hx05.trans hx6,.inl ⟨trivial,em,v6,hF,rfl,hO.lower hx05.next hx05.nfam⟩⟩
def fineG (l:List Rule):Prop:=rightG l=true∧∃em,Found l em∧fineB l em=true
theorem fineG_iff {l:List Rule} {em:List Bool} (hr:rightG l=true) (hF:Found l em):fineG l↔fineB l em=true:=by
 constructor
 ·rintro ⟨_,em',h1,h2⟩
  rw [h1.uniq hF] at h2
  exact h2
 ·exact fun h=>⟨hr,em,hF,h⟩
set_option maxHeartbeats 4000000 in
set_option maxRecDepth 10000 in
theorem emptyL_c {l:List Rule} {Av:Option Addr} {c b o:Nat} {css:Nat→List Value} (R:RoRules r l Av c b o css) (hft:fitsG l) (h:Hp) (hrom:h.rom=r) (hb:h.base≤h.next) :
  ∃v h1,Snd Try.prog 30 [.agg #[.slice Av l.length c]] h v h1∧NamesP (fineG l) (fun em=>pickN l em) l h v h1:=by
 refine snd_go wf Try.func30 rfl rfl (n:=19) rfl (by kernel_rfl) rfl ?_
 intro a hn hg
 have hr:Try.f30.results.toList=[.tmp 2,.tmp 3]:=rfl
 have g0:=hg 0
 clear hg
 simp only [List.getElem?_cons_zero,List.getElem?_cons_succ] at g0
 have hP:=own_new hb 24 [.slice Av l.length c]
 have hx0:=Ext.new h (CObj.cells ⟨[.slice Av l.length c],24,0,0,false⟩)
 simp -dsimp only [go_sem,g0,loads_own hP]
 generalize h.newH (CObj.cells ⟨[.slice Av l.length c],24,0,0,false⟩)=h2 at hP hx0 ⊢
 have hb2:h2.base≤h2.next:=by rw [hx0.base];exact Nat.le_trans hb hx0.next
 have hrom2:h2.rom=r:=hx0.rom.trans hrom
 obtain ⟨_,h3,hs3,hx3,hv⟩:=usable_c R hft h2 hrom2 hb2
 refine ⟨_,h3,hs3,?_⟩
 have hx03:=hx0.trans hx3
 by_cases hrg:rightG l=true
 rotate_left
 ·rw [if_neg hrg] at hv
  subst hv
  simp -dsimp only [go_sem,hr,Bool.not_false]
  exact ⟨hx03,.inr ⟨fun c=>hrg c.1,rfl⟩⟩
 rw [if_pos hrg] at hv
 obtain ⟨bk,m,eb,em,rfl,_,_,_,hB,hF⟩:=hv
 have hfg:=fineG_iff hrg hF
 cases hf:fineB l em with
 | false =>
   simp -dsimp only [go_sem,hr,Bool.not_false]
   exact ⟨hx03,.inr ⟨fun c=>(by rw [hfg.1 c] at hf;cases hf),rfl⟩⟩
 | true =>
   have hb3:h3.base≤h3.next:=by rw [hx3.base];exact Nat.le_trans hb2 hx3.next
   have hnl:(nms l).length=l.length:=by simp [nms]
   have hown:=hB.own
   rw [hnl] at hown
   simp -dsimp only [go_sem,Bool.not_true,load_own hown]
   obtain ⟨v6,h6,hs6,hx6,hO⟩:=named_c R (is:=em) (by rw [hB.len,hnl]) h3 (hx3.rom.trans hrom2) hb3 hB hB.row
   refine ⟨_,h6,hs6,?_⟩
   simp -dsimp only [go_sem,hr]
   exact ⟨hx03.trans hx6,.inl ⟨hfg.2 hf,em,v6,hF,rfl,hO.lower hx03.next hx03.nfam⟩⟩
end Go.Ev.G24
end
section
namespace Go.Ev.G24
open Go.RowKit Go.Proofs
variable {r:Ro}
set_option maxHeartbeats 4000000 in
set_option maxRecDepth 10000 in
theorem refEmptyL_c {l:List Rule} {Av:Option Addr} {c b o:Nat} {css:Nat→List Value} (R:RoRules r l Av c b o css) (hft:fitsG l) (h:Hp) (hrom:h.rom=r) (hb:h.base≤h.next) :
  ∃v h1,Snd Try.prog 31 [.agg #[.slice Av l.length c]] h v h1∧NamesP (fineG l) (fun em=>pickN l em) l h v h1:=by
 refine snd_go wf Try.func31 rfl rfl (n:=32) rfl (by kernel_rfl) rfl ?_
 intro a hn hg
 have hr:Try.f31.results.toList=[.tmp 2,.tmp 3]:=rfl
 have g0:=hg 0
 clear hg
 simp only [List.getElem?_cons_zero,List.getElem?_cons_succ] at g0
 have hP:=own_new hb 24 [.slice Av l.length c]
 have hx0:=Ext.new h (CObj.cells ⟨[.slice Av l.length c],24,0,0,false⟩)
 simp -dsimp only [go_sem,g0,loads_own hP,next_newH]
 generalize h.newH (CObj.cells ⟨[.slice Av l.length c],24,0,0,false⟩)=h2 at hP hx0 ⊢
 have hb2:h2.base≤h2.next:=by rw [hx0.base];exact Nat.le_trans hb hx0.next
 have hrom2:h2.rom=r:=hx0.rom.trans hrom
 obtain ⟨_,h3,hs3,hx3,hv⟩:=refFine_c R hft h2 hrom2 hb2
 refine ⟨_,h3,hs3,?_⟩
 have hx03:=hx0.trans hx3
 by_cases hrg:rightG l=true
 rotate_left
 ·rw [if_neg hrg] at hv
  subst hv
  simp -dsimp only [go_sem,hr,Bool.not_false]
  exact ⟨hx03,.inr ⟨fun c=>hrg c.1,rfl⟩⟩
 rw [if_pos hrg] at hv
 obtain ⟨em0,hF0,rfl⟩:=hv
 have hfg:=fineG_iff hrg hF0
 cases hf:fineB l em0 with
 | false =>
   simp -dsimp only [go_sem,hr,Bool.not_false]
   exact ⟨hx03,.inr ⟨fun c=>(by rw [hfg.1 c] at hf;cases hf),rfl⟩⟩
 | true =>
   have hfine:=hfg.2 hf
   obtain ⟨hfr,hnm⟩:=rightG_named hrg
   have hb3:h3.base≤h3.next:=by rw [hx3.base];exact Nat.le_trans hb2 hx3.next
   have hP3:=own_ext hx3 hP
   simp -dsimp only [go_sem,Bool.not_true,loads_own hP3]
   obtain ⟨_,h4,hs4,hx4,eb,em,rfl,heb,hE,hel,hF⟩:=empties_c R hnm h3 (hx3.rom.trans hrom2) hb3
   refine ⟨_,h4,hs4,?_⟩
   have hx04:=hx03.trans hx4
   have hb4:h4.base≤h4.next:=by rw [hx04.base];exact Nat.le_trans hb hx04.next
   have hP4:=own_ext hx4 hP3
   try simp -dsimp only [go_sem]
   refine loop_go (n:=32) (by kernel_rfl) (fun m' a' h'=>∃(j:Nat) (v:Value),j≤l.length∧m'=l.length - j∧Ext h4 h'∧OwnE 9 h' h4.next h4.nfam ((pickN (l.take j) (em.take j)).map .string) v ∧
    a'.get 1=.pointer (some ⟨h.next,0,none⟩)∧a'.get 4=v∧a'.get 5=.slice (some ⟨eb,0,none⟩) l.length l.length∧a'.get 6=.int .i64 (j:Int)) ?_ l.length _ _ (by simp -dsimp only [go_sem,hn]) ⟨0,.slice none 0 0,Nat.zero_le _,rfl,Ext.refl _,.inl ⟨by simp [pickN],rfl⟩,by simp -dsimp only [go_sem],by simp -dsimp only [go_sem],by simp -dsimp only [go_sem],by simp -dsimp only [go_sem];rfl⟩
   rintro m' a' h' hn' ⟨j,v,hj,rfl,hx,hO',e1,e4,e5,e6⟩
   have hrom':h'.rom=r:=hx.rom.trans (hx04.rom.trans hrom)
   have hb':h'.base≤h'.next:=by rw [hx.base];exact Nat.le_trans hb4 hx.next
   have hP':=own_ext hx hP4
   have hE':=own_ext hx hE
   by_cases hlt:j<l.length
   rotate_left
   ·have hi0:decide ((j:Int)<(l.length:Int))=false:=decide_eq_false (by omega)
    have hjn:j=l.length:=by omega
    subst hjn
    rw [List.take_length,←hel,List.take_length] at hO'
    simp -dsimp only [go_sem,e4,e5,e6,hi0,hr]
    exact ⟨hx04.trans hx,.inl ⟨hfine,em,v,hF,rfl,hO'.lower hx04.next hx04.nfam⟩⟩
   have hi1:decide ((j:Int)<(l.length:Int))=true:=decide_eq_true (Int.ofNat_lt.2 hlt)
   have hpi:l[j]? = some l[j]:=List.getElem?_eq_getElem hlt
   obtain ⟨Av1,c1',hcs⟩:=(R.hk j _ hpi).shape
   have hat':=R.hat j _ hpi
   rw [hcs] at hat'
   have hAv:=R.hA (ne_nil hlt)
   subst hAv
   have hji:j<em.length:=by omega
   have hsn:=pickN_snoc l em j hlt hji
   have hget:(em.map Value.bool)[j]? = some (.bool em[j]):=by simp [List.getElem?_eq_getElem hji]
   have hld:h'.load ⟨b,o+j*4,none⟩=some (.string l[j].name):=by
    have:=load_ro hrom' hat' (j:=0) (v:=.string l[j].name) rfl
    simpa using this
   cases hm:em[j] with
   | false =>
     rw [hm] at hget hsn
     simp only [Bool.false_eq_true,if_false,List.append_nil] at hsn
     simp -dsimp only [go_sem,e1,e4,e5,e6,hi1,ia105 hlt,load_own hE',hget,wrap64_succ hlt (Nat.le_trans R.hb (by decide))]
     exact ⟨l.length - (j+1),by omega,j+1,v,hlt,rfl,hx,by rw [hsn];exact hO',rfl,rfl⟩
   | true =>
     rw [hm] at hget hsn
     simp only [if_true] at hsn
     have hX6:=Ext.new h' (CObj.cells ⟨[.string l[j].name],9,0,0,false⟩)
     have hW:=own_new hb' 9 [.string l[j].name]
     have hx06:=hx.trans hX6
     have hpl:=pickN_len (l.take j) (em.take j)
     have:=R.hb
     rw [List.length_take] at hpl
     obtain ⟨v',h7,ha7,hO7,hext7,hk7,hn7⟩:=apps25 (ds:=[.string l[j].name]) rfl (hO'.ext hX6) (src_own hW (n:=1) (c:=1) rfl) (by rw [hX6.base];exact Nat.le_trans hb' hX6.next) hx06.next hx06.nfam (by rw [List.length_map];simp;omega)
     simp -dsimp only [go_sem,e1,e4,e5,e6,hi1,ia22 hlt,ia105 hlt,load_own hP',load_own hE',hget,hld,bs25 1 (by decide),repeatN,builtin',ha7,wrap64_succ hlt (Nat.le_trans R.hb (by decide))]
     refine ⟨l.length - (j+1),by omega,j+1,v',hlt,rfl,(hext7 (fun _=>False) h4 (hx06.toS) (Nat.le_refl _) (Nat.le_refl _)).ext (fun _ _ c=>c),?_,rfl,rfl⟩
     rw [hsn,List.map_append]
     exact hO7
end Go.Ev.G24
end
section
namespace Go.Ev.G24
open Go.RowKit Go.Proofs
inductive TaskF
 | part (p:Part)
 | kids (l:List Part) (sq:Bool)
abbrev StF:=List Bool×List ByteArray
def starS:ByteArray:=⟨#[42]⟩
def stepF (G:List Rule) (em:List Bool) (rc:TaskF→StF→Option StF):TaskF→StF→Option StF
 | .part ⟨d,t,l⟩,s =>
   if d.data.toList=[105,115] then some (s.1,s.2++[t])
   else if d.data.toList=[97,110,121] then some (s.1,s.2++[starS])
   else if d.data.toList=[114,117,108,101] then
    (if s.1.getD (idxOf (nms G) t) false=true then some s else rc (.part (bodyOf G t)) (s.1.set (idxOf (nms G) t) true,s.2))
   else if d.data.toList=[110,111,116] then some s
   else rc (.kids l (decide (d.data.toList=[115,101,113]))) s
 | .kids [] _,s=>some s
 | .kids (x::l) sq,s=>(rc (.part x) s).bind fun s1=>if (sq && !mayB (emf (nms G) em) x)=true then some s1 else rc (.kids l sq) s1
def runF (G:List Rule) (em:List Bool):Nat→TaskF→StF→Option StF
 | 0,_,_=>none
 | k+1,t,s=>stepF G em (runF G em k) t s
variable {G:List Rule} {em:List Bool}
theorem stepF_le {rc rc':TaskF→StF→Option StF} (h:∀t s o,rc t s=some o→rc' t s=some o):∀t s o,stepF G em rc t s=some o→stepF G em rc' t s=some o:=by
 intro t s o k
 match t with
 | .part ⟨d,t,l⟩ =>
   unfold stepF at k ⊢
   simp only [] at k ⊢
   by_cases c1:d.data.toList=[105,115]
   ·rw [if_pos c1] at k ⊢;exact k
   rw [if_neg c1] at k ⊢
   by_cases c2:d.data.toList=[97,110,121]
   ·rw [if_pos c2] at k ⊢;exact k
   rw [if_neg c2] at k ⊢
   by_cases c3:d.data.toList=[114,117,108,101]
   ·rw [if_pos c3] at k ⊢
    split at k
    ·rename_i c;rw [if_pos c];exact k
    ·rename_i c;rw [if_neg c];exact h _ _ _ k
   rw [if_neg c3] at k ⊢
   by_cases c4:d.data.toList=[110,111,116]
   ·rw [if_pos c4] at k ⊢;exact k
   rw [if_neg c4] at k ⊢
   exact h _ _ _ k
 | .kids [] sq=>exact k
 | .kids (x::l) sq =>
   change (rc (.part x) s).bind _=some o at k
   show (rc' (.part x) s).bind _=some o
   rw [Option.bind_eq_some_iff] at k ⊢
   obtain ⟨s1,h1,h2⟩:=k
   refine ⟨s1,h _ _ _ h1,?_⟩
   split at h2
   ·rename_i c;rw [if_pos c];exact h2
   ·rename_i c;rw [if_neg c];exact h _ _ _ h2
theorem runF_succ:∀(k:Nat) t s o,runF G em k t s=some o→runF G em (k+1) t s=some o
 | 0,t,s,o,h=>by cases h
 | k+1,t,s,o,h=>stepF_le (runF_succ k) t s o h
theorem runF_le {k k':Nat} (h:k≤k') {t:TaskF} {s o:StF} (e:runF G em k t s=some o):runF G em k' t s=some o:=by
 induction h with
 | refl=>exact e
 | step _ ih=>exact runF_succ _ t s o ih
def RunsF (G:List Rule) (em:List Bool) (t:TaskF) (s o:StF):Prop:=∃k,runF G em k t s=some o
theorem RunsF.det {t:TaskF} {s o o':StF} (h:RunsF G em t s o) (h':RunsF G em t s o'):o=o':=by
 obtain ⟨k,h⟩:=h
 obtain ⟨k',h'⟩:=h'
 have h1:=runF_le (Nat.le_max_left k k') h
 have h2:=runF_le (Nat.le_max_right k k') h'
 rw [h1] at h2
 injection h2
section
variable {d t:ByteArray} {l:List Part} {s o:StF}
theorem rF_is (h:d.data.toList=[105,115]):RunsF G em (.part ⟨d,t,l⟩) s (s.1,s.2++[t]):=⟨1,by show stepF _ _ _ _ _=_;unfold stepF;simp only [];rw [if_pos h]⟩
theorem rF_any (h:d.data.toList=[97,110,121]):RunsF G em (.part ⟨d,t,l⟩) s (s.1,s.2++[starS]):=⟨1,by show stepF _ _ _ _ _=_;unfold stepF;simp only [];rw [if_neg (by rw [h];decide),if_pos h]⟩
theorem rF_seen (h:d.data.toList=[114,117,108,101]) (hs:s.1.getD (idxOf (nms G) t) false=true):RunsF G em (.part ⟨d,t,l⟩) s s:=⟨1,by show stepF _ _ _ _ _=_;unfold stepF;simp only [];rw [if_neg (by rw [h];decide),if_neg (by rw [h];decide),if_pos h,if_pos hs]⟩
theorem rF_rule (h:d.data.toList=[114,117,108,101]) (hs:s.1.getD (idxOf (nms G) t) false=false) (k:RunsF G em (.part (bodyOf G t)) (s.1.set (idxOf (nms G) t) true,s.2) o):RunsF G em (.part ⟨d,t,l⟩) s o:=by
 obtain ⟨n,k⟩:=k
 exact ⟨n+1,by show stepF _ _ _ _ _=_;unfold stepF;simp only [];rw [if_neg (by rw [h];decide),if_neg (by rw [h];decide),if_pos h,if_neg (by rw [hs];simp)];exact k⟩
theorem rF_not (h:d.data.toList=[110,111,116]):RunsF G em (.part ⟨d,t,l⟩) s s:=⟨1,by show stepF _ _ _ _ _=_;unfold stepF;simp only [];rw [if_neg (by rw [h];decide),if_neg (by rw [h];decide),if_neg (by rw [h];decide),if_pos h]⟩
theorem rF_kids (c1:¬d.data.toList=[105,115]) (c2:¬d.data.toList=[97,110,121]) (c3:¬d.data.toList=[114,117,108,101]) (c4:¬d.data.toList=[110,111,116]) (k:RunsF G em (.kids l (decide (d.data.toList=[115,101,113]))) s o):RunsF G em (.part ⟨d,t,l⟩) s o:=by
 obtain ⟨n,k⟩:=k
 exact ⟨n+1,by show stepF _ _ _ _ _=_;unfold stepF;simp only [];rw [if_neg c1,if_neg c2,if_neg c3,if_neg c4];exact k⟩
theorem rF_nil {sq:Bool}:RunsF G em (.kids [] sq) s s:=⟨1,rfl⟩
theorem rF_stop {sq:Bool} {x:Part} (k:RunsF G em (.part x) s o) (h:(sq && !mayB (emf (nms G) em) x)=true):RunsF G em (.kids (x::l) sq) s o:=by
 obtain ⟨n,k⟩:=k
 exact ⟨n+1,by show (runF G em n (.part x) s).bind _=_;rw [k];exact if_pos h⟩
theorem rF_cons {sq:Bool} {x:Part} {s1:StF} (k:RunsF G em (.part x) s s1) (h:(sq && !mayB (emf (nms G) em) x)=false) (k2:RunsF G em (.kids l sq) s1 o):RunsF G em (.kids (x::l) sq) s o:=by
 obtain ⟨n,k⟩:=k
 obtain ⟨n2,k2⟩:=k2
 exact ⟨max n n2+1,by show (runF G em (max n n2) (.part x) s).bind _=_;rw [runF_le (Nat.le_max_left n n2) k];exact (if_neg (by rw [h];simp)).trans (runF_le (Nat.le_max_right n n2) k2)⟩
end
def entsT:List ByteArray→Nat→List MapEntry
 | [],_=>[]
 | n::l,i=>⟨.string n,.bool true,i⟩::entsT l (i+1)
set_option maxRecDepth 10000 in
theorem find_entsT (h:Hp) (s:ByteArray):∀(l:List ByteArray) (i k:Nat),find' Try.prog h 9 (.string s) (entsT l i) k =
  some (if l.findIdx (fun x=>decide (x.data.toList=s.data.toList))<l.length then some (k+l.findIdx (fun x=>decide (x.data.toList=s.data.toList)),.bool true) else none)
 | [],i,k=>by simp [entsT,find']
 | n::l,i,k=>by
   have he:eqv Try.prog h 40 9 (.string s) (.string n)=some (decide (n.data.toList=s.data.toList)):=by
    simp only [eqv,Try.underlying9,bytesEq_dec]
    congr 1
    rw [Bool.eq_iff_iff];simp [eq_comm]
   simp only [entsT,find',he,List.findIdx_cons]
   by_cases c:n.data.toList=s.data.toList
   ·simp [c]
   ·simp only [c,decide_false,cond_false,List.length_cons]
    rw [find_entsT h s l (i+1) (k+1)]
    simp only [Nat.add_lt_add_iff_right]
    split
    ·rw [show k+1+List.findIdx (fun x=>decide (x.data.toList=s.data.toList)) l=k+(List.findIdx (fun x=>decide (x.data.toList=s.data.toList)) l+1) by omega]
    ·rfl
theorem entsT_snoc (s:ByteArray):∀(l:List ByteArray) (i:Nat),entsT (l++[s]) i=entsT l i++[⟨.string s,.bool true,i+l.length⟩]
 | [],i=>by simp [entsT]
 | n::l,i=>by
   simp only [List.cons_append,entsT,entsT_snoc s l (i+1),List.length_cons]
   rw [show i+1+l.length=i+(l.length+1) by omega]
theorem entsT_get:∀(l:List ByteArray) (i j:Nat),(entsT l i)[j]? = (l[j]?).map fun s=>⟨.string s,.bool true,i+j⟩
 | [],i,j=>by simp [entsT]
 | n::l,i,0=>by simp [entsT]
 | n::l,i,j+1=>by
   simp only [entsT,List.getElem?_cons_succ]
   rw [entsT_get l (i+1) j,show i+1+j=i+(j+1) by omega]
def MapK (h:Hp) (m:Nat) (ks:List ByteArray):Prop:=m<h.next∧h.base≤m∧h.objs.get m=some (.map (entsT ks 0) ks.length)
theorem MapK.keepS {S:Nat→Prop} {h h1:Hp} {m:Nat} {ks:List ByteArray} (x:ExtS S h h1) (k:MapK h m ks) (hm:¬S m):MapK h1 m ks:=⟨Nat.lt_of_lt_of_le k.1 x.next,by rw [x.base];exact k.2.1,by rw [x.objs m k.1 hm];exact k.2.2⟩
theorem MapK.keep {h h1:Hp} {m:Nat} {ks:List ByteArray} (x:Ext h h1) (k:MapK h m ks):MapK h1 m ks:=k.keepS (x.toS (S:=fun _=>False)) (fun c=>c)
def addKey (ks:List ByteArray) (s:ByteArray):List ByteArray:=if idxOf ks s<ks.length then ks else ks++[s]
def keysOf (log:List ByteArray):List ByteArray:=log.foldl addKey []
theorem keysOf_snoc (log:List ByteArray) (s:ByteArray):keysOf (log++[s])=addKey (keysOf log) s:=by
 unfold keysOf
 rw [List.foldl_append]
 rfl
theorem idxOf_at {ks:List ByteArray} {s:ByteArray} (h:idxOf ks s<ks.length):ks[idxOf ks s]? = some s:=by
 have h1:=List.findIdx_getElem (w:=h)
 have h2:(ks[idxOf ks s]'h).data.toList=s.data.toList:=by
  have:=of_decide_eq_true h1
  exact this
 rw [List.getElem?_eq_getElem h]
 congr 1
 exact ByteArray.ext (Array.ext' h2)
theorem setAt_same {f:MapEntry→MapEntry}:∀(l:List MapEntry) (i:Nat),(∀e,l[i]? = some e→f e=e)→setAt f l i=l
 | [],i,_=>by cases i<;>rfl
 | e::l,0,h=>by simp only [setAt,h e rfl]
 | e::l,i+1,h=>by simp only [setAt,setAt_same l i (fun e he=>h e (by simpa using he))]
set_option maxRecDepth 10000 in
theorem MapK.add {h:Hp} {m:Nat} {ks:List ByteArray} (k:MapK h m ks) (s:ByteArray):∃o,mapUpdate' Try.prog h 116 (.map (some m)) (.string s) (.bool true)=some (h.put m o)∧MapK (h.put m o) m (addKey ks s):=by
 have hm:h.map? m=some (entsT ks 0,ks.length):=by simp only [Hp.map?,k.2.2]
 have hk:keyOk Try.prog 40 9 (.string s)=true:=by simp only [keyOk,Try.underlying9]
 have hf:=find_entsT h s ks 0 0
 by_cases hs:idxOf ks s<ks.length
 ·have hs':=hs
  unfold idxOf at hs'
  rw [if_pos hs',Nat.zero_add] at hf
  have hat:(entsT ks 0)[idxOf ks s]? = some ⟨.string s,.bool true,idxOf ks s⟩:=by
   rw [entsT_get,idxOf_at hs,Nat.zero_add]
   rfl
  unfold idxOf at hat
  refine ⟨.map (entsT ks 0) ks.length,?_,⟨k.1,k.2.1,?_⟩⟩
  ·have hsk:sameKey 40 (.string s) (.string s)=true:=by simp [sameKey,bytesEq_beq]
   simp only [mapUpdate',Try.underlying116,hm,hk,hf,hat,hsk]
   rw [setAt_same]
   intro e he
   rw [hat] at he
   injection he with he
   rw [←he]
  ·rw [get_putH,if_pos rfl]
   unfold addKey
   rw [if_pos hs]
 ·have hs':=hs
  unfold idxOf at hs'
  rw [if_neg hs'] at hf
  refine ⟨.map (entsT (ks++[s]) 0) (ks.length+1),?_,⟨k.1,k.2.1,?_⟩⟩
  ·simp only [mapUpdate',Try.underlying116,hm,hk,hf,entsT_snoc,Nat.zero_add]
  ·rw [get_putH,if_pos rfl]
   unfold addKey
   rw [if_neg hs]
   simp
end Go.Ev.G24
end
section
namespace Go.Ev.G24
open Go.RowKit Go.Proofs
variable {r:Ro} {G:List Rule} {em:List Bool} {bk m eb tb mm:Nat} {Gv:Option Addr} {gc:Nat}
def TwoF (tb mm:Nat):Nat→Prop:=fun b=>b=tb∨b=mm
structure FSt (h:Hp) (G:List Rule) (tb mm:Nat) (s:StF):Prop where
 own:h.own tb 4 (s.1.map .bool)
 map:MapK h mm (keysOf s.2)
 len:s.1.length=G.length
theorem FSt.ext {h h1:Hp} (x:Ext h h1) {s:StF} (k:FSt h G tb mm s):FSt h1 G tb mm s:=⟨own_ext x k.own,k.map.keep x,k.len⟩
def FirstC (r:Ro) (G:List Rule) (em:List Bool) (bk m eb tb mm:Nat) (Gv:Option Addr) (gc bound:Nat) (p:Part):Prop:=∀(h:Hp) (cs:List Value) (s:StF),h.rom=r→h.base≤h.next→Book h bk m eb (.slice Gv G.length gc) (nms G) em→RoPart r p cs→named (nms G) p →
 FSt h G tb mm s→cf s.1≤bound →
 ∃v h1,Snd Try.prog 62 [.pointer (some ⟨bk,0,none⟩),.agg cs.toArray,.slice (some ⟨tb,0,none⟩) G.length G.length,.map (some mm)] h v h1∧ExtS (TwoF tb mm) h h1∧∃s',RunsF G em (.part p) s s'∧FSt h1 G tb mm s'∧cf s'.1≤cf s.1
structure ApartF (bk m eb tb mm:Nat):Prop where
 a:bk≠tb
 b:m≠tb
 c:eb≠tb
 d:bk≠mm
 e:m≠mm
 f:eb≠mm
 g:tb≠mm
theorem Book.twoF {h h1:Hp} (A:ApartF bk m eb tb mm) (x:ExtS (TwoF tb mm) h h1) {V:Value} {names:List ByteArray} (k:Book h bk m eb V names em):Book h1 bk m eb V names em :=
 k.extS x (fun c=>c.elim A.a A.d) (fun c=>c.elim A.b A.e) (fun c=>c.elim A.c A.f)
set_option maxHeartbeats 4000000 in
set_option maxRecDepth 10000 in
theorem first_loop (A:ApartF bk m eb tb mm) {bound:Nat} {d t:ByteArray} {l:List Part} {pb:Nat} {Av:Option Addr} {c b o:Nat} {css:Nat→List Value} (ih:∀(i:Nat) (p:Part),l[i]? = some p→FirstC r G em bk m eb tb mm Gv gc bound p) (hnk:∀(i:Nat) (p:Part),l[i]? = some p→named (nms G) p)
  (hlb:l.length≤9223372036854775807) (hA:l≠[]→Av=some ⟨b,o,none⟩) (hat:∀(i:Nat) (p:Part),l[i]? = some p→roAt r b (o+i*3) (css i)) (hk:∀(i:Nat) (p:Part),l[i]? = some p→RoPart r p (css i))
  {a:Ev.A} {h1:Hp} {Q:Ex→Ev.A→Hp→Prop} (hn:a.n=75) (hrom:h1.rom=r) (hb1:h1.base≤h1.next) (hB:Book h1 bk m eb (.slice Gv G.length gc) (nms G) em) {s:StF} (hS:FSt h1 G tb mm s) (hbd:cf s.1≤bound)
  (hpt:pb≠tb) (hpm:pb≠mm) (hP:h1.own pb 52 [.string d,.string t,.slice Av l.length c])
  (g0:a.get 0=.pointer (some ⟨bk,0,none⟩)) (g2:a.get 2=.slice (some ⟨tb,0,none⟩) G.length G.length) (g3:a.get 3=.map (some mm)) (g5:a.get 5=.pointer (some ⟨pb,0,none⟩)) (g14:a.get 14=.slice Av l.length c) (g15:a.get 15=.int .i64 l.length) (g16:a.get 16=.int .i64 0)
  (hq0:∀a1 h2 s',ExtS (TwoF tb mm) h1 h2→RunsF G em (.kids l (decide (d.data.toList=[115,101,113]))) s s'→FSt h2 G tb mm s'→cf s'.1≤cf s.1→Q (.exit 1) a1 h2)
  (hq1:∀a1 h2 s',ExtS (TwoF tb mm) h1 h2→RunsF G em (.kids l (decide (d.data.toList=[115,101,113]))) s s'→FSt h2 G tb mm s'→cf s'.1≤cf s.1→Q .ret a1 h2):Th Try.prog (bodyAt Try.f62 [1,1,0,1,1,1,1,1,1,1,1,1,0]) a h1 Q ⟨⟩ ⟨⟩:=by
 simp only [bodyAt,nav,Try.f62]
 have hGl:(nms G).length=G.length:=by simp [nms]
 refine loop_go (n:=75) (by kernel_rfl) (fun m' a' h'=>∃(i:Nat) (s1:StF),i≤l.length∧m'=l.length - i∧ExtS (TwoF tb mm) h1 h'∧FSt h' G tb mm s1∧cf s1.1≤cf s.1∧(∀s',RunsF G em (.kids (l.drop i) (decide (d.data.toList=[115,101,113]))) s1 s'→RunsF G em (.kids l (decide (d.data.toList=[115,101,113]))) s s') ∧
  a'.get 0=.pointer (some ⟨bk,0,none⟩)∧a'.get 2=.slice (some ⟨tb,0,none⟩) G.length G.length∧a'.get 3=.map (some mm)∧a'.get 5=.pointer (some ⟨pb,0,none⟩)∧a'.get 14=.slice Av l.length c∧a'.get 15=.int .i64 l.length∧a'.get 16=.int .i64 i) ?_ l.length _ _ hn ⟨0,s,Nat.zero_le _,rfl,(Ext.refl _).toS,hS,Nat.le_refl _,fun s' k=>by rw [List.drop_zero] at k;exact k,g0,g2,g3,g5,g14,g15,g16⟩
 rintro m' a' h' hn' ⟨i,s1,hi,rfl,hx,hS1,hc1,hst,e0,e2,e3,e5,e14,e15,e16⟩
 have hrom':h'.rom=r:=ext_rom hx hrom
 have hb':h'.base≤h'.next:=by rw [hx.base];exact Nat.le_trans hb1 hx.next
 have hB':=Book.twoF A hx hB
 by_cases hlt:i<l.length
 rotate_left
 ·have hi0:decide ((i:Int)<(l.length:Int))=false:=decide_eq_false (by omega)
  rw [List.drop_eq_nil_of_le (by omega)] at hst
  simp -dsimp only [go_sem,e15,e16,hi0]
  exact hq0 _ _ s1 hx (hst _ rF_nil) hS1 hc1
 have hpi:l[i]? = some l[i]:=List.getElem?_eq_getElem hlt
 have hi1:decide ((i:Int)<(l.length:Int))=true:=decide_eq_true (Int.ofNat_lt.2 hlt)
 obtain ⟨Av1,c1',hcs⟩:=(hk i _ hpi).shape
 have hat':=hat i _ hpi
 have hkid:=hk i _ hpi
 rw [hcs] at hat' hkid
 have hAv:=hA (ne_nil hlt)
 subst hAv
 obtain ⟨vS,vO,vX,vB,vR⟩:=var_ok hb' (e:=52) (c0:=[.string ⟨#[]⟩,.string ⟨#[]⟩,.slice none 0 0]) (c1:=[.string l[i].d,.string l[i].t,.slice Av1 l[i].l.length c1']) rfl rfl (by simp)
 simp -dsimp only [go_sem,e0,e2,e3,e5,e14,e15,e16,hi1,ia50 hlt,loads_ro (n:=3) hrom' hat' rfl,vS,loads_own vO]
 obtain ⟨_,h2,hs,hx2,s2,hR2,hS2,hc2⟩:=ih i _ hpi _ _ s1 (vR.trans hrom') vB (hB'.ext vX) hkid (hnk i _ hpi) (hS1.ext vX) (Nat.le_trans hc1 hbd)
 refine ⟨_,h2,hs,?_⟩
 have hx3:ExtS (TwoF tb mm) h1 h2:=hx.trans (vX.toS.trans hx2)
 have hP2:=own_extS hx3 hP (fun c=>c.elim hpt hpm)
 have hvn:¬TwoF tb mm h'.next:=fun c=>by
  rcases c with c|c
  ·exact Nat.ne_of_gt hS1.own.2.1 c
  ·exact Nat.ne_of_gt hS1.map.1 c
 have vO2:=own_extS hx2 vO hvn
 have hB2:=Book.twoF A hx3 hB
 have hdr:l.drop i=l[i]::l.drop (i+1):=List.drop_eq_getElem_cons hlt
 rw [hdr] at hst
 by_cases csq:d.data.toList=[115,101,113]
 ·have k1:decide (d.data.toList=[115,101,113])=true:=decide_eq_true csq
  simp -dsimp only [go_sem,undef',e0,e2,e3,e5,e14,e15,e16,load_own hP2,loads_own vO2,k1]
  obtain ⟨_,h4,hs4,rfl,hx4⟩:=may_c _ l[i] (Nat.lt_succ_self _) _ _ (ext_rom hx3 hrom) (ext_bn hx3 hb1) hB2 hkid (hnk i _ hpi)
  refine ⟨_,h4,hs4,?_⟩
  have hx5:ExtS (TwoF tb mm) h1 h4:=hx3.trans hx4.toS
  simp -dsimp only [go_sem,undef']
  cases hm:mayB (emf (nms G) em) l[i] with
  | false =>
    simp -dsimp only [go_sem,Bool.not_false]
    exact hq1 _ _ s2 hx5 (hst _ (rF_stop hR2 (by rw [k1,hm];rfl))) (hS2.ext hx4) (Nat.le_trans hc2 hc1)
  | true =>
    simp -dsimp only [go_sem,Bool.not_true,e0,e2,e3,e5,e14,e15,e16,wrap64_succ hlt hlb]
    exact ⟨l.length - (i+1),by omega,i+1,s2,hlt,rfl,hx5,hS2.ext hx4,Nat.le_trans hc2 hc1,fun s' k=>hst _ (rF_cons hR2 (by rw [hm];simp) k),rfl⟩
 ·have k1:decide (d.data.toList=[115,101,113])=false:=decide_eq_false csq
  simp -dsimp only [go_sem,undef',e0,e2,e3,e5,e14,e15,e16,load_own hP2,loads_own vO2,k1,wrap64_succ hlt hlb]
  exact ⟨l.length - (i+1),by omega,i+1,s2,hlt,rfl,hx3,hS2,Nat.le_trans hc2 hc1,fun s' k=>by rw [k1] at hst;exact hst _ (rF_cons hR2 rfl k),rfl⟩
theorem cf_le_set {s:List Bool} {i:Nat} (h:s.getD i false=false) (hi:i<s.length):cf (s.set i true)<cf s:=cf_set (by
 rw [List.getD_eq_getElem?_getD,List.getElem?_eq_getElem hi] at h
 rw [List.getElem?_eq_getElem hi]
 exact congrArg some h)
set_option maxHeartbeats 8000000 in
set_option maxRecDepth 10000 in
theorem first_c {gb go:Nat} {gcss:Nat→List Value} (R:RoRules r G Gv gc gb go gcss) (hnG:∀(i:Nat) (x:Rule),G[i]? = some x→named (nms G) x.body) (A:ApartF bk m eb tb mm):∀(bound n:Nat) (p:Part),SizeOf.sizeOf p<n→FirstC r G em bk m eb tb mm Gv gc bound p:=by
 have hGl:(nms G).length=G.length:=by simp [nms]
 intro bound
 induction bound using Nat.strongRecOn with
 | _ bound ihB =>
 intro n
 induction n with
 | zero=>exact fun p hp=>absurd hp (Nat.not_lt_zero _)
 | succ n ihn =>
 rintro ⟨d,t,l⟩ hn h cs s hrom hb hB hp hnm hS hbd
 have ih:∀(i:Nat) (p:Part),l[i]? = some p→FirstC r G em bk m eb tb mm Gv gc bound p:=fun i p hp=>ihn p (by
  have:=List.sizeOf_lt_of_mem (List.mem_of_getElem? hp)
  simp only [Part.mk.sizeOf_spec] at hn
  omega)
 have hnk:∀(i:Nat) (p:Part),l[i]? = some p→named (nms G) p:=namedL_get hnm.2.2
 cases hp with
 | mk _ _ _ Av c b o css hc hlb hA hat hk =>
 refine snd_go wf Try.func62 rfl rfl (n:=75) rfl (by kernel_rfl) rfl ?_
 intro a hn hg
 have hr:Try.f62.results.toList=[]:=rfl
 have g0:=hg 0
 have g1:=hg 1
 have g2:=hg 2
 have g3:=hg 3
 clear hg
 simp only [List.getElem?_cons_zero,List.getElem?_cons_succ] at g0 g1 g2 g3
 have hP:=own_new hb 52 [.string d,.string t,.slice Av l.length c]
 have hx0:=Ext.new h (CObj.cells ⟨[.string d,.string t,.slice Av l.length c],52,0,0,false⟩)
 have hb1:=Nat.le_succ_of_le (m:=h.next) hb
 have hpt:h.next≠tb:=Nat.ne_of_gt hS.own.2.1
 have hpm:h.next≠mm:=Nat.ne_of_gt hS.map.1
 simp -dsimp only [go_sem,g1]
 generalize h.newH (CObj.cells ⟨[.string d,.string t,.slice Av l.length c],52,0,0,false⟩)=h1 at hP hx0 ⊢
 have hb1:h1.base≤h1.next:=by rw [hx0.base];exact Nat.le_trans hb hx0.next
 have hrom1:h1.rom=r:=hx0.rom.trans hrom
 have hS1:=hS.ext hx0
 have hB1:=hB.ext hx0
 have hxS:ExtS (TwoF tb mm) h h1:=hx0.toS
 by_cases c1:d.data.toList=[105,115]
 ·have k1:decide (d.data.toList=[105,115])=true:=decide_eq_true c1
  obtain ⟨o9,hu,hM⟩:=hS1.map.add t
  simp -dsimp only [go_sem,g0,g2,g3,load_own hP,k1,hu,hr]
  have hx2:=hxS.put (b:=mm) (.inr (.inr rfl)) o9
  exact ⟨hx2,_,rF_is c1,⟨own_put hS1.own A.g o9,by rw [keysOf_snoc];exact hM,hS.len⟩,Nat.le_refl _⟩
 have k1:decide (d.data.toList=[105,115])=false:=decide_eq_false c1
 by_cases c2:d.data.toList=[97,110,121]
 ·have k2:decide (d.data.toList=[97,110,121])=true:=decide_eq_true c2
  obtain ⟨o9,hu,hM⟩:=hS1.map.add starS
  have hu':mapUpdate' Try.prog h1 116 (.map (some mm)) (.string ⟨#[42]⟩) (.bool true)=some (h1.put mm o9):=hu
  simp -dsimp only [go_sem,g0,g2,g3,load_own hP,k1,k2,hu',hr]
  have hx2:=hxS.put (b:=mm) (.inr (.inr rfl)) o9
  exact ⟨hx2,_,rF_any c2,⟨own_put hS1.own A.g o9,by rw [keysOf_snoc];exact hM,hS.len⟩,Nat.le_refl _⟩
 have k2:decide (d.data.toList=[97,110,121])=false:=decide_eq_false c2
 by_cases c3:d.data.toList=[114,117,108,101]
 ·have k3:decide (d.data.toList=[114,117,108,101])=true:=decide_eq_true c3
  have hidx:idxOf (nms G) t<(nms G).length:=hnm.1 c3
  have hidG:idxOf (nms G) t<G.length:=by rw [←hGl];exact hidx
  have hids:idxOf (nms G) t<s.1.length:=by rw [hS.len];exact hidG
  have hget:(s.1.map Value.bool)[idxOf (nms G) t]? = some (.bool (s.1.getD (idxOf (nms G) t) false)):=by
   simp only [List.getElem?_map,List.getD_eq_getElem?_getD,List.getElem?_eq_getElem hids,Option.map_some,Option.getD_some]
  simp -dsimp only [go_sem,g0,g2,g3,load_own hP,k1,k2,k3]
  refine Dw_reads (n:=75) (by simp -dsimp only [go_sem,hn]) (by kernel_rfl) (by kernel_rfl) ?_
  simp -dsimp only [go_sem,drawR,g0,g2,g3,load_own hP,load_own hB1.own,hB1.lookup hidx,ia105 hidG,load_own hS1.own,hget]
  cases hsn:s.1.getD (idxOf (nms G) t) false with
  | true =>
    simp -dsimp only [go_sem,Bool.not_true,hr]
    exact ⟨hxS,s,rF_seen c3 hsn,hS1,Nat.le_refl _⟩
  | false =>
    have hsto:=stores_own hS1.own (o:=idxOf (nms G) t) (vs:=[.bool true]) rfl (bool_store hids) (by simp)
    have hlt:=cf_le_set hsn hids
    have hx2:=hxS.put (b:=tb) (.inr (.inl rfl)) (.cells ⟨(s.1.set (idxOf (nms G) t) true).map .bool,4,0,0,false⟩)
    have hpi:G[idxOf (nms G) t]? = some G[idxOf (nms G) t]:=List.getElem?_eq_getElem hidG
    obtain ⟨Av1,c1',hcs⟩:=(R.hk _ _ hpi).shape
    have hat':=R.hat _ _ hpi
    have hkid:=R.hk _ _ hpi
    rw [hcs] at hat' hkid
    have hat2:=roAt_tail hat'
    have hAv:=R.hA (ne_nil hidG)
    subst hAv
    have hbo:bodyOf G t=G[idxOf (nms G) t].body:=by
     unfold bodyOf
     rw [hpi]
    have hrom2:=ext_rom hx2 hrom
    have hb2:=ext_bn hx2 hb
    have hB2:=Book.twoF A hx2 hB
    simp -dsimp only [go_sem,Bool.not_false,g0,g2,g3,ia105 hidG,hsto,load_own hB2.own,ia22 hidG,loads_ro (n:=3) hrom2 hat2 rfl]
    obtain ⟨_,h4,hs4,hx4,s',hR4,hS4,hc4⟩:=ihB (cf (s.1.set (idxOf (nms G) t) true)) (Nat.lt_of_lt_of_le hlt hbd) _ G[idxOf (nms G) t].body (Nat.lt_succ_self _) _ _ (s.1.set (idxOf (nms G) t) true,s.2) hrom2 hb2 hB2 hkid (hnG _ _ hpi)
     ⟨own_put_same hS1.own _,hS1.map.keepS ((Ext.refl h1).toS.put (S:=Only tb) (b:=tb) (.inr rfl) _) (fun c=>A.g c.symm),by simp [hS.len]⟩ (Nat.le_refl _)
    refine ⟨_,h4,hs4,?_⟩
    simp -dsimp only [go_sem,hr]
    exact ⟨hx2.trans hx4,s',rF_rule c3 hsn (by rw [hbo];exact hR4),hS4,Nat.le_of_lt (Nat.lt_of_le_of_lt hc4 hlt)⟩
 have k3:decide (d.data.toList=[114,117,108,101])=false:=decide_eq_false c3
 by_cases c4:d.data.toList=[110,111,116]
 ·have k4:decide (d.data.toList=[110,111,116])=true:=decide_eq_true c4
  simp -dsimp only [go_sem,g0,g2,g3,load_own hP,k1,k2,k3,k4,hr]
  exact ⟨hxS,s,rF_not c4,hS1,Nat.le_refl _⟩
 have k4:decide (d.data.toList=[110,111,116])=false:=decide_eq_false c4
 simp -dsimp only [go_sem,g0,g2,g3,load_own hP,k1,k2,k3,k4]
 refine first_loop A (l:=l) (c:=c) (d:=d) (t:=t) (pb:=h.next) ih hnk hlb hA hat hk (by simp -dsimp only [go_sem,hn]) hrom1 hb1 hB1 hS1 hbd hpt hpm hP (by simp -dsimp only [go_sem,g0]) (by simp -dsimp only [go_sem,g2]) (by simp -dsimp only [go_sem,g3]) (by simp -dsimp only [go_sem]) (by simp -dsimp only [go_sem]) (by simp -dsimp only [go_sem]) (by simp -dsimp only [go_sem]) (fun a1 h3 s' hx3 hR hS3 hc3 => ?_) (fun a1 h3 s' hx3 hR hS3 hc3 => ?_)
 ·simp -dsimp only [go_sem,hr]
  exact ⟨hxS.trans hx3,s',rF_kids c1 c2 c3 c4 hR,hS3,hc3⟩
 ·simp -dsimp only [go_sem,hr]
  exact ⟨hxS.trans hx3,s',rF_kids c1 c2 c3 c4 hR,hS3,hc3⟩
end Go.Ev.G24
end
section
namespace Go.Ev
open Go.RowKit Go.Sort Go.Proofs
variable {P:Program} {ρ:Rho} {N:Bs} {h:Hp} {w:World}
def SortsStr (P:Program) (f:FuncId):Prop:=(∃fn c,P.funcs[f]? = some fn∧fn.body=some c∧(fn.name == "runtime.NumGoroutine")=false) ∧
 (∀(blk off cap:Nat) (ss:List (List UInt8)) (w:World),Holds encStr w blk off ss.toArray→blk<w.heap.size→ss.length<4611686018427387904 →
  Calls P f #[.slice (some ⟨blk,off,none⟩) ss.length cap] w fun e w'=>e=.returned (.tuple #[])∧∃n os,w'=grow (putRow encStr (Sort.ahead w n) blk off (ss.mergeSort fun x y=>decide (x≤y)).toArray) os) ∧
 ∀(p:Option Addr) (cap:Nat) (w:World),Calls P f #[.slice p 0 cap] w fun e w'=>e=.returned (.tuple #[])∧w'=w
def sortL (ss:List (List UInt8)):List (List UInt8):=ss.mergeSort fun x y=>decide (x≤y)
theorem sortL_len (ss:List (List UInt8)):(sortL ss).length=ss.length:=List.length_mergeSort _
theorem enc_one (l:List (List UInt8)):(l.map encStr).all oneCell=true:=by
 rw [List.all_map]
 exact List.all_eq_true.2 fun _ _=>rfl
theorem vrs_enc (ρ:Rho):∀l:List (List UInt8),VRs ρ (l.map encStr) (l.map encStr)
 | []=>.nil
 | x::l=>.cons (.string _) (vrs_enc ρ l)
theorem over_put {arr:Array Value} {o:Nat} {d:List (List UInt8)} (hd:o+d.length≤arr.size):over arr o (d.map encStr)=putCells encStr o d.toArray arr:=by
 apply Array.ext_getElem?
 intro j
 rw [over_get _ _ _ (by rw [List.length_map];exact hd)]
 unfold putCells
 rw [Array.getElem?_mapIdx]
 simp only [List.length_map,List.size_toArray]
 by_cases hj:o≤j∧j<o+d.length
 ·rw [if_pos hj,Array.getElem?_eq_getElem (show j<arr.size by omega)]
  have hlt:j - o<d.length:=by omega
  simp [hj,List.getElem?_eq_getElem hlt,hlt]
 ·rw [if_neg hj]
  cases ha:arr[j]? with
  | none=>simp
  | some v=>simp [hj]
theorem sort_snd {f:FuncId} (S:SortsStr P f) {a:Addr} {r:Row} (hs0:a.spot=none) (hr:h.row a.block=some r) {ss:List (List UInt8)} (hne:ss≠[]) (hat:∀j,j<ss.length→r.c[a.off+j]? = (ss.map encStr)[j]?) (hlen:ss.length<4611686018427387904) {cap:Nat} {h1:Hp}
  (hst:h.stores a ((sortL ss).map encStr)=some h1):Snd P f [.slice (some a) ss.length cap] h (.tuple #[]) h1:=by
 refine ⟨S.1,?_⟩
 intro ρ N w args' H hA
 cases hA with
 | @cons _ v' _ l' hv hl =>
 cases hl with
 | nil =>
 have hpos:0<ss.length:=List.length_pos_iff.2 hne
 obtain ⟨a',i,c',rfl,hAR⟩:∃a' i c',v'=.slice (some a') ss.length c'∧AR ρ a a' i:=by
  generalize ss.length=nn at hv hpos
  cases hv with
  | sl h1 h2=>exact ⟨_,_,_,rfl,h1⟩
  | slZero a a' h1=>omega
 have hi:=hAR.2.1
 obtain ⟨arr,e,fr,hw,hR,hget⟩:=H.row hr hi
 have hcl:a.off+ss.length≤r.c.length:=by
  have h1:=hat (ss.length - 1) (by omega)
  rw [List.getElem?_map,List.getElem?_eq_getElem (show ss.length - 1<ss.length by omega)] at h1
  have h2:∃v,r.c[a.off+(ss.length - 1)]? = some v:=⟨_,h1⟩
  obtain ⟨v,hv⟩:=h2
  have h3:=(List.getElem?_eq_some_iff.1 hv).1
  omega
 have hsz:i.s+(a.off+ss.length)≤arr.size:=by have:=hR.2.1;omega
 have hblk:i.b<w.heap.size:=(Array.getElem?_eq_some_iff.1 hw).1
 have hcell:∀j,j<ss.length→w.cell? ⟨i.b,i.s+a.off+j,none⟩=some (encStr ss[j]!):=by
  intro j hj
  have h1:=hat j hj
  rw [List.getElem?_map,List.getElem?_eq_getElem hj,Option.map_some] at h1
  obtain ⟨v',h2,h3⟩:=hR.2.2.2.1 _ _ h1
  cases h3 with
  | string =>
  have e1:i.s+(a.off+j)=i.s+a.off+j:=by omega
  rw [e1] at h2
  have e2:ss[j]! = ss[j]:=by simp [hj]
  simp only [World.cell?,hw]
  simp [h2,e2]
 have hH:Holds encStr w i.b (i.s+a.off) ss.toArray:=by
  intro j hj
  have hj':j<ss.length:=by simpa using hj
  refine ⟨?_,?_⟩
  ·rw [hcell j hj']
   simp [hj']
  ·simp only [World.frozen?,hw]
   exact hR.2.2.2.2.1 _ (by omega)
 have ha':a'=⟨i.b,i.s+a.off,none⟩:=hAR.2.2
 subst ha'
 refine (S.2.1 i.b (i.s+a.off) c' ss w hH hblk hlen).mono ?_
 rintro en w2 ⟨rfl,n,os,rfl⟩
 obtain ⟨w1,hrun,H1,B1⟩:=HR.stores (a:=a) (a':=⟨i.b,i.s+a.off,none⟩) H (.inr ⟨i,hAR⟩) (vrs_enc ρ (sortL ss)) hst
 have hrun2:=storeCells_run (P:=P) (b:=i.b) (e:=e) (fr:=fr) (i.s+a.off) ((sortL ss).map encStr) 0 w arr hw hR.2.2.2.2.1 (by rw [List.length_map,sortL_len];omega) (enc_one _)
 rw [hrun2] at hrun
 injection hrun with _ hw1
 have hheap:w1.heap=(putRow encStr (Sort.ahead w n) i.b (i.s+a.off) (sortL ss).toArray).heap:=by
  rw [←hw1]
  unfold World.putBlock putRow mapBlock Sort.ahead
  simp only
  apply Array.ext_getElem?
  intro k
  rw [Array.getElem?_setIfInBounds,Array.getElem?_modify]
  by_cases hk:i.b=k
  ·subst hk
   simp only [hblk,if_true,hw,Option.map_some,onCells,Nat.add_zero]
   rw [over_put (by rw [sortL_len];omega)]
  ·simp [hk]
 have H2:=H1.drewn (w.drawn+n)
 have hb2:Below w1.heap.size { w1 with drawn:=w.drawn+n } (grow (putRow encStr (Sort.ahead w n) i.b (i.s+a.off) (ss.mergeSort fun x y=>decide (x≤y)).toArray) os):=by
  refine ⟨by rw [←hw1];rfl,by rw [←hw1];rfl,by rw [←hw1];rfl,?_,fun k hk => ?_⟩
  ·rw [size_grow]
   show w1.heap.size≤_
   rw [hheap]
   exact Nat.le_add_right _ _
  ·show _=w1.heap[k]?
   rw [heap_grow_old _ _ (by rw [hheap] at hk;exact hk),hheap]
   rfl
 refine ⟨ρ,.tuple #[],rfl,Rho.le_refl ρ,HR.wide H2 hb2,.tuple .nil,?_⟩
 have B2:Below N w { w1 with drawn:=w.drawn+n }:=⟨B1.os,B1.tape,B1.output,B1.size,B1.block⟩
 exact B2.trans (hb2.mono H2.base)
theorem sort_none {f:FuncId} (S:SortsStr P f) {A:Option Addr} {cap:Nat} (hA:A=none):Snd P f [.slice A 0 cap] h (.tuple #[]) h:=by
 refine ⟨S.1,?_⟩
 intro ρ N w args' H hA'
 cases hA' with
 | @cons _ v' _ l' hv hl =>
 cases hl with
 | nil =>
 cases hv with
 | _ =>
   refine (S.2.2 _ _ w).mono ?_
   rintro en w2 ⟨rfl,rfl⟩
   exact ⟨ρ,_,rfl,Rho.le_refl ρ,H,.tuple .nil,Below.refl _ _⟩
end Go.Ev
end
section
namespace Go.Proofs
open Go.Shelf
def Try.lays190_ren:Go.Shelf.Ren:=⟨fun|190=>63|125=>87|258=>86|128=>111|129=>112|302=>102|303=>103|304=>104|305=>105|306=>106|307=>107|308=>108|309=>109|310=>110|333=>119|329=>120|330=>121|334=>122|335=>123|336=>124|344=>137|n=>n,fun|31=>25|9=>9|3=>3|46=>140|0=>0|51=>159|53=>161|4=>4|183=>152|182=>151|131=>131|5=>5|218=>166|222=>170|228=>174|229=>175|n=>n,fun|n=>n⟩
theorem Try.lays190:Go.Proofs.Lays.n190 Try.prog Try.lays190_ren:={
 mixed:=by kernel_rfl
 f125:=Try.func87.trans (congrArg some (by kernel_rfl))
 f128:=Try.func111.trans (congrArg some (by kernel_rfl))
 f129:=Try.func112.trans (congrArg some (by kernel_rfl))
 f190:=Try.func63.trans (congrArg some (by kernel_rfl))
 f258:=Try.func86.trans (congrArg some (by kernel_rfl))
 f302:=Try.func102.trans (congrArg some (by kernel_rfl))
 f303:=Try.func103.trans (congrArg some (by kernel_rfl))
 f304:=Try.func104.trans (congrArg some (by kernel_rfl))
 f305:=Try.func105.trans (congrArg some (by kernel_rfl))
 f306:=Try.func106.trans (congrArg some (by kernel_rfl))
 f307:=Try.func107.trans (congrArg some (by kernel_rfl))
 f308:=Try.func108.trans (congrArg some (by kernel_rfl))
 f309:=Try.func109.trans (congrArg some (by kernel_rfl))
 f310:=Try.func110.trans (congrArg some (by kernel_rfl))
 f329:=Try.func120.trans (congrArg some (by kernel_rfl))
 f330:=Try.func121.trans (congrArg some (by kernel_rfl))
 f333:=Try.func119.trans (congrArg some (by kernel_rfl))
 f334:=Try.func122.trans (congrArg some (by kernel_rfl))
 f335:=Try.func123.trans (congrArg some (by kernel_rfl))
 f336:=Try.func124.trans (congrArg some (by kernel_rfl))
 f344:=Try.func137.trans (congrArg some (by kernel_rfl))
 t0:=Try.underlying0
 a0:=Try.isAgg0
 z0:=Try.sizeOf0
 v0:=Try.zeroValue0
 t3:=Try.underlying3
 a3:=Try.isAgg3
 z3:=Try.sizeOf3
 v3:=Try.zeroValue3
 t4:=Try.underlying4
 a4:=Try.isAgg4
 z4:=Try.sizeOf4
 v4:=Try.zeroValue4
 t5:=Try.underlying5
 a5:=Try.isAgg5
 z5:=Try.sizeOf5
 v5:=Try.zeroValue5
 t9:=Try.underlying9
 a9:=Try.isAgg9
 z9:=Try.sizeOf9
 v9:=Try.zeroValue9
 t31:=Try.underlying25
 a31:=Try.isAgg25
 z31:=Try.sizeOf25
 v31:=Try.zeroValue25
 t46:=Try.underlying140
 a46:=Try.isAgg140
 z46:=Try.sizeOf140
 v46:=Try.zeroValue140
 t51:=Try.underlying159
 a51:=Try.isAgg159
 z51:=Try.sizeOf159
 v51:=Try.zeroValue159
 t53:=Try.underlying161
 a53:=Try.isAgg161
 z53:=Try.sizeOf161
 v53:=Try.zeroValue161
 t131:=Try.underlying131
 a131:=Try.isAgg131
 z131:=Try.sizeOf131
 v131:=Try.zeroValue131
 t182:=Try.underlying151
 a182:=Try.isAgg151
 z182:=Try.sizeOf151
 v182:=Try.zeroValue151
 t183:=Try.underlying152
 a183:=Try.isAgg152
 z183:=Try.sizeOf152
 v183:=Try.zeroValue152
 t218:=Try.underlying166
 a218:=Try.isAgg166
 z218:=Try.sizeOf166
 v218:=Try.zeroValue166
 t222:=Try.underlying170
 a222:=Try.isAgg170
 z222:=Try.sizeOf170
 v222:=Try.zeroValue170
 t228:=Try.underlying174
 a228:=Try.isAgg174
 z228:=Try.sizeOf174
 v228:=Try.zeroValue174
 t229:=Try.underlying175
 a229:=Try.isAgg175
 z229:=Try.sizeOf175
 v229:=Try.zeroValue175 }
open Go.Sort Go.RowKit in
theorem Try.slices_Sort_string (blk off cap:Nat) (ss:List (List UInt8)) (w:World) (hH:Holds encStr w blk off ss.toArray) (hblk:blk<w.heap.size) (hsz:ss.length<4611686018427387904) :
 Calls Try.prog 63 #[.slice (some ⟨blk,off,none⟩) ss.length cap] w fun e w' =>
  e=.returned (.tuple #[])∧∃n os,w'=grow (putRow encStr (Sort.ahead w n) blk off (ss.mergeSort fun x y=>decide (x≤y)).toArray) os:=Any.slices_Sort_string Try.lays190 blk off cap ss w hH hblk hsz
open Go.RowKit Go.Sort in
theorem Try.slices_Sort_string_none (p:Option Addr) (cap:Nat) (w:World) :
 Calls Try.prog 63 #[.slice p 0 cap] w fun e w'=>e=.returned (.tuple #[])∧w'=w:=Any.slices_Sort_string_none Try.lays190 p cap w
end Go.Proofs
namespace Go.Ev.G24
open Go.RowKit Go.Proofs Go.Sort
theorem sorts:SortsStr Try.prog 63:=⟨⟨_,_,Try.func63,rfl,rfl⟩,fun blk off cap ss w hH hb hs=>Try.slices_Sort_string blk off cap ss w hH hb hs,fun p cap w=>Try.slices_Sort_string_none p cap w⟩
end Go.Ev.G24
end
section
namespace Go.Ev.G24
open Go.RowKit Go.Proofs
variable {h h1 h2:Hp} {e:TypeId} {s:Nat}
def OwnG (e:TypeId) (s:Nat) (h:Hp) (n0 f0:Nat) (n:Nat) (cs:List Value) (v:Value):Prop:=(n=0∧cs=[]∧v=.slice none 0 0) ∨
 ∃b f,v=.slice (some ⟨b,0,none⟩) n n∧RowE e h b cs f∧cs.length=n*s∧n0≤b∧(f≠0→f0≤f)
theorem OwnG.len {n0 f0 n:Nat} {cs:List Value} {v:Value} (k:OwnG e s h n0 f0 n cs v):cs.length=n*s:=by
 rcases k with ⟨rfl,rfl,_⟩|⟨b,f,_,_,h1,_⟩
 ·simp
 ·exact h1
theorem OwnG.slice {n0 f0 n:Nat} {cs:List Value} {v:Value} (k:OwnG e s h n0 f0 n cs v):∃A,v=.slice A n n∧spotless A=true:=by
 rcases k with ⟨rfl,_,rfl⟩|⟨b,f,rfl,_⟩
 ·exact ⟨_,rfl,rfl⟩
 ·exact ⟨_,rfl,rfl⟩
theorem OwnG.ext {S:Nat→Prop} (x:ExtS S h h1) {n0 f0 n:Nat} {cs:List Value} {v:Value} (k:OwnG e s h n0 f0 n cs v) (hS:∀b,ownB v b→¬S b):OwnG e s h1 n0 f0 n cs v:=by
 rcases k with ⟨rfl,rfl,rfl⟩|⟨b,f,rfl,hr,hl,hb,hf⟩
 ·exact .inl ⟨rfl,rfl,rfl⟩
 ·exact .inr ⟨b,f,rfl,rowE_keep x hr (hS b rfl),hl,hb,hf⟩
theorem rowE_fam {b f:Nat} {cs:List Value} (k:RowE e h b cs f) {r:Row} (hr:h.row b=some r):r.fam=f:=by
 obtain ⟨bs,g,h2⟩:=k.row
 rw [hr] at h2
 injection h2 with h2
 rw [h2]
theorem ownF_eqE {b f n c:Nat} {cs:List Value} (k:RowE e h b cs f) (q:Nat):ownF h (.slice (some ⟨b,0,none⟩) n c) q↔(q=f∧f≠0):=by
 constructor
 ·rintro ⟨h1,r,h2,h3⟩
  have:=rowE_fam k h2
  exact ⟨by rw [←h3,this],by rw [←this,h3];exact h1⟩
 ·rintro ⟨rfl,h1⟩
  obtain ⟨bs,g,h2⟩:=k.row
  exact ⟨h1,_,h2,rfl⟩
theorem OwnG.lt {n0 f0 n:Nat} {cs:List Value} {v:Value} (k:OwnG e s h n0 f0 n cs v) {x:Nat} (hx:ownB v x):n0≤x∧x<h.next:=by
 rcases k with ⟨rfl,rfl,rfl⟩|⟨b,f,rfl,hr,hl,hb,hf⟩
 ·exact hx.elim
 ·have:x=b:=hx
  rw [this];exact ⟨hb,hr.lt⟩
theorem OwnG.ownF_same {S:Nat→Prop} {n0 f0 n:Nat} {cs:List Value} {v:Value} (k:OwnG e s h n0 f0 n cs v) (x:ExtS S h h1) (hS:∀b,ownB v b→¬S b) {q:Nat} (hq:ownF h1 v q):ownF h v q:=by
 rcases k with ⟨rfl,rfl,rfl⟩|⟨b,f,rfl,hr,hl,hb,hf⟩
 ·exact hq.elim
 ·exact (ownF_eqE hr q).2 ((ownF_eqE (rowE_keep x hr (hS b rfl)) q).1 hq)
end Go.Ev.G24
end
section
namespace Go.Ev.G24
open Go.RowKit Go.Proofs
theorem sz85:sizeOf' Try.prog 85=some 2:=by kernel_rfl
@[go_sem] theorem z81 : zero' Try.prog 81 = some (.agg #[.slice none 0 0, .slice none 0 0, .int .i64 0]) := by kernel_rfl
@[go_sem] theorem z85 : zero' Try.prog 85 = some (.agg #[.slice none 0 0, .int .i64 0]) := by kernel_rfl
@[go_sem] theorem z92 : zero' Try.prog 92 = some (.agg #[.pointer none, .slice none 0 0, .int .i64 0]) := by kernel_rfl
@[go_sem] theorem fa81_0 (b o : Nat) : fieldAddr' Try.prog 81 (.pointer (some ⟨b, o, none⟩)) 0 = some (.pointer (some ⟨b, o, none⟩)) := field_addr 24 0 Try.underlying81 rfl sz24 b o
@[go_sem] theorem fa81_1 (b o : Nat) : fieldAddr' Try.prog 81 (.pointer (some ⟨b, o, none⟩)) 1 = some (.pointer (some ⟨b, o + 1, none⟩)) := field_addr 25 1 Try.underlying81 rfl sz25 b o
@[go_sem] theorem fa81_2 (b o : Nat) : fieldAddr' Try.prog 81 (.pointer (some ⟨b, o, none⟩)) 2 = some (.pointer (some ⟨b, o + 2, none⟩)) := field_addr 3 2 Try.underlying81 rfl sz3 b o
@[go_sem] theorem fa85_0 (b o : Nat) : fieldAddr' Try.prog 85 (.pointer (some ⟨b, o, none⟩)) 0 = some (.pointer (some ⟨b, o, none⟩)) := field_addr 29 0 Try.underlying85 rfl sz29 b o
@[go_sem] theorem fa85_1 (b o : Nat) : fieldAddr' Try.prog 85 (.pointer (some ⟨b, o, none⟩)) 1 = some (.pointer (some ⟨b, o + 1, none⟩)) := field_addr 3 1 Try.underlying85 rfl sz3 b o
@[go_sem] theorem fa92_0 (b o : Nat) : fieldAddr' Try.prog 92 (.pointer (some ⟨b, o, none⟩)) 0 = some (.pointer (some ⟨b, o, none⟩)) := field_addr 87 0 Try.underlying92 rfl sz87 b o
@[go_sem] theorem fa92_1 (b o : Nat) : fieldAddr' Try.prog 92 (.pointer (some ⟨b, o, none⟩)) 1 = some (.pointer (some ⟨b, o + 1, none⟩)) := field_addr 25 1 Try.underlying92 rfl sz25 b o
@[go_sem] theorem fa92_2 (b o : Nat) : fieldAddr' Try.prog 92 (.pointer (some ⟨b, o, none⟩)) 2 = some (.pointer (some ⟨b, o + 2, none⟩)) := field_addr 3 2 Try.underlying92 rfl sz3 b o
@[go_sem] theorem ia82 {b o n c i : Nat} (hi : i < n) : indexAddr' Try.prog 82 (.slice (some ⟨b, o, none⟩) n c) (.int .i64 (i : Int)) = some (.pointer (some ⟨b, o + i * 2, none⟩)) := index_addr Try.underlying82 sz85 hi
@[go_sem] theorem ia93 {b o n c i : Nat} (hi : i < n) : indexAddr' Try.prog 93 (.slice (some ⟨b, o, none⟩) n c) (.int .i64 (i : Int)) = some (.pointer (some ⟨b, o + i * 3, none⟩)) := index_addr Try.underlying93 sz75 hi
@[go_sem] theorem len82 (h : Hp) (b : Option Addr) (n c : Nat) (r : List TypeId) : len' Try.prog h (82 :: r) [.slice b n c] = some (.int .i64 n) := len_slice Try.underlying82 h b n c r
@[go_sem] theorem len93 (h : Hp) (b : Option Addr) (n c : Nat) (r : List TypeId) : len' Try.prog h (93 :: r) [.slice b n c] = some (.int .i64 n) := len_slice Try.underlying93 h b n c r
@[go_sem] theorem bd81 (ps : List (Nat × Value)) : build' Try.prog 81 ps = match fill' (fun i => ([(0, 1), (1, 1), (2, 1)] : List (Nat × Nat))[i]?) [.slice none 0 0, .slice none 0 0, .int .i64 0] ps with | some c => some (.agg c.toArray) | none => none := build_of z81 Try.underlying81 (by kernel_rfl) (fun i => by
 match i with
 | 0=>exact by simp only [placeOf,List.getElem?_cons_zero,List.getElem?_cons_succ,sz24]
 | 1=>exact by simp only [placeOf,List.getElem?_cons_zero,List.getElem?_cons_succ,sz25]
 | 2=>exact by simp only [placeOf,List.getElem?_cons_zero,List.getElem?_cons_succ,sz3]
 | _+3=>rfl) ps
@[go_sem] theorem bd85 (ps : List (Nat × Value)) : build' Try.prog 85 ps = match fill' (fun i => ([(0, 1), (1, 1)] : List (Nat × Nat))[i]?) [.slice none 0 0, .int .i64 0] ps with | some c => some (.agg c.toArray) | none => none := build_of z85 Try.underlying85 (by kernel_rfl) (fun i => by
 match i with
 | 0=>exact by simp only [placeOf,List.getElem?_cons_zero,List.getElem?_cons_succ,sz29]
 | 1=>exact by simp only [placeOf,List.getElem?_cons_zero,List.getElem?_cons_succ,sz3]
 | _+2=>rfl) ps
@[go_sem] theorem bd92 (ps : List (Nat × Value)) : build' Try.prog 92 ps = match fill' (fun i => ([(0, 1), (1, 1), (2, 1)] : List (Nat × Nat))[i]?) [.pointer none, .slice none 0 0, .int .i64 0] ps with | some c => some (.agg c.toArray) | none => none := build_of z92 Try.underlying92 (by kernel_rfl) (fun i => by
 match i with
 | 0=>exact by simp only [placeOf,List.getElem?_cons_zero,List.getElem?_cons_succ,sz87]
 | 1=>exact by simp only [placeOf,List.getElem?_cons_zero,List.getElem?_cons_succ,sz25]
 | 2=>exact by simp only [placeOf,List.getElem?_cons_zero,List.getElem?_cons_succ,sz3]
 | _+3=>rfl) ps
@[go_sem] theorem bs82 (n : Nat) (hn : n ≤ 1000) (ps : List (Nat × Value)) : buildRow' Try.prog 82 n ps = match fill' (fun i => some (i * 2, 2)) (repeatN [.slice none 0 0, .int .i64 0] n) ps with | some c => some (.cells ⟨c, 85, 0, 0, false⟩, fun b => .slice (some ⟨b, 0, none⟩) n n) | none => none := buildRow_of Try.underlying82 sz85 z85 rfl (by decide) (by omega) ps
@[go_sem] theorem bs93 (n : Nat) (hn : n ≤ 1000) (ps : List (Nat × Value)) : buildRow' Try.prog 93 n ps = match fill' (fun i => some (i * 3, 3)) (repeatN [.bool false, .int .i64 0, .slice none 0 0] n) ps with | some c => some (.cells ⟨c, 75, 0, 0, false⟩, fun b => .slice (some ⟨b, 0, none⟩) n n) | none => none := buildRow_of Try.underlying93 sz75 z75 rfl (by decide) (by omega) ps
end Go.Ev.G24
end
section
namespace Go.Ev.G24
open Go.RowKit Go.Proofs
abbrev Way:=List Part×Nat
inductive TaskW
 | part (p:Part) (q:Nat)
 | alts (l:List Part) (q:Nat)
 | row (l:List Part) (q:Nat)
 | rowH (hs:List Way) (l:List Part)
 | again (x:Part) (q:Nat)
 | againH (hs:List Way) (x:Part)
abbrev OutW:=List Way×Nat×Nat
def oneW (items:List ByteArray) (w:Option ByteArray) (q:Nat):OutW:=match items[q]? with
 | some s=>if testB w s=true then ([([itemT s],q+1)],1,0) else ([],1,0)
 | none=>([],1,0)
def ruleW (t:ByteArray) (o:OutW):OutW:=(o.1.map fun w=>([ruleT t w.1],w.2),o.2.1+1,o.2.2)
def manyW (o:OutW):OutW:=(o.1.map fun w=>([manyT w.1],w.2),o.2.1+1,o.2.2)
def plusW (o:OutW):OutW:=(o.1,o.2.1+1,o.2.2)
def optW (q:Nat) (o:OutW):OutW:=(o.1++[([],q)],o.2.1+1,o.2.2)
def notW (q:Nat) (o:OutW):OutW:=(if 0<o.1.length then [] else [([],q)],o.2.1+1,o.2.2)
def altW (a b:OutW):OutW:=(a.1++b.1,a.2.1+b.2.1,a.2.2+b.2.2)
def rowW (a b:OutW):OutW:=(b.1,a.2.1+b.2.1,a.2.2+b.2.2)
def consW (ks:List Part) (rs:List Way):List Way:=rs.map fun r=>(ks++r.1,r.2)
def stepH (ks:List Part) (a b:OutW):OutW:=(consW ks a.1++b.1,a.2.1+b.2.1,a.2.2+b.2.2+a.1.length)
def againW (q:Nat) (a b:OutW):OutW:=(b.1++[([],q)],a.2.1+b.2.1,a.2.2+b.2.2)
def two (rc:TaskW→Option OutW) (t:TaskW) (f:OutW→TaskW) (g:OutW→OutW→OutW):Option OutW:=(rc t).bind fun a=>(rc (f a)).map (g a)
def head1W (rc:TaskW→Option OutW) (f:Part→TaskW) (l:List Part) (g:OutW→OutW):Option OutW:=match l with
 | x::_=>(rc (f x)).map g
 | []=>none
def stepPW (G:List Rule) (items:List ByteArray) (rc:TaskW→Option OutW) (d t:ByteArray) (l:List Part) (q:Nat):Option OutW :=
 if d.data.toList=[105,115] then some (oneW items (some t) q)
 else if d.data.toList=[97,110,121] then some (oneW items none q)
 else if d.data.toList=[114,117,108,101] then (rc (.part (bodyOf G t) q)).map (ruleW t)
 else if d.data.toList=[115,101,113] then (rc (.row l q)).map plusW
 else if d.data.toList=[111,114] then (rc (.alts l q)).map plusW
 else if d.data.toList=[109,97,110,121] then head1W rc (fun x=>.again x q) l manyW
 else if d.data.toList=[111,112,116] then head1W rc (fun x=>.part x q) l (optW q)
 else if d.data.toList=[110,111,116] then head1W rc (fun x=>.part x q) l (notW q)
 else some ([([],q)],1,0)
def stepW (G:List Rule) (items:List ByteArray) (rc:TaskW→Option OutW):TaskW→Option OutW
 | .part ⟨d,t,l⟩ q=>stepPW G items rc d t l q
 | .alts [] q=>some ([],0,0)
 | .alts (x::l) q=>two rc (.part x q) (fun _=>.alts l q) altW
 | .row [] q=>some ([([],q)],0,0)
 | .row (x::l) q=>two rc (.part x q) (fun a=>.rowH a.1 l) rowW
 | .rowH [] l=>some ([],0,0)
 | .rowH ((ks,e)::hs) l=>two rc (.row l e) (fun _=>.rowH hs l) (stepH ks)
 | .again x q=>two rc (.part x q) (fun a=>.againH a.1 x) (againW q)
 | .againH [] x=>some ([],0,0)
 | .againH ((ks,e)::hs) x=>two rc (.again x e) (fun _=>.againH hs x) (stepH ks)
def runW (G:List Rule) (items:List ByteArray):Nat→TaskW→Option OutW
 | 0,_=>none
 | k+1,t=>stepW G items (runW G items k) t
def LeW (rc rc':TaskW→Option OutW):Prop:=∀t o,rc t=some o→rc' t=some o
variable {G:List Rule} {items:List ByteArray} {rc rc':TaskW→Option OutW}
theorem LeW.map (h:LeW rc rc') {t:TaskW} {f:OutW→OutW} {o:OutW} (k:(rc t).map f=some o):(rc' t).map f=some o:=by
 rw [Option.map_eq_some_iff] at k ⊢
 obtain ⟨x,h1,h2⟩:=k
 exact ⟨x,h t x h1,h2⟩
theorem LeW.two (h:LeW rc rc') {t:TaskW} {f:OutW→TaskW} {g:OutW→OutW→OutW} {o:OutW} (k:two rc t f g=some o):two rc' t f g=some o:=by
 unfold G24.two at k ⊢
 rw [Option.bind_eq_some_iff] at k ⊢
 obtain ⟨x,h1,h2⟩:=k
 exact ⟨x,h t x h1,h.map h2⟩
theorem LeW.head1 (h:LeW rc rc') {f:Part→TaskW} {l:List Part} {g:OutW→OutW} {o:OutW} (k:head1W rc f l g=some o):head1W rc' f l g=some o:=by
 cases l with
 | nil=>cases k
 | cons x l=>exact h.map k
theorem stepW_le (h:LeW rc rc'):LeW (stepW G items rc) (stepW G items rc'):=by
 intro t o k
 match t with
 | .part ⟨d,t,l⟩ q =>
   change stepPW G items rc d t l q=some o at k
   show stepPW G items rc' d t l q=some o
   unfold stepPW at k ⊢
   by_cases c1:d.data.toList=[105,115]
   ·rw [if_pos c1] at k ⊢;exact k
   rw [if_neg c1] at k ⊢
   by_cases c2:d.data.toList=[97,110,121]
   ·rw [if_pos c2] at k ⊢;exact k
   rw [if_neg c2] at k ⊢
   by_cases c3:d.data.toList=[114,117,108,101]
   ·rw [if_pos c3] at k ⊢;exact h.map k
   rw [if_neg c3] at k ⊢
   by_cases c4:d.data.toList=[115,101,113]
   ·rw [if_pos c4] at k ⊢;exact h.map k
   rw [if_neg c4] at k ⊢
   by_cases c5:d.data.toList=[111,114]
   ·rw [if_pos c5] at k ⊢;exact h.map k
   rw [if_neg c5] at k ⊢
   by_cases c6:d.data.toList=[109,97,110,121]
   ·rw [if_pos c6] at k ⊢;exact h.head1 k
   rw [if_neg c6] at k ⊢
   by_cases c7:d.data.toList=[111,112,116]
   ·rw [if_pos c7] at k ⊢;exact h.head1 k
   rw [if_neg c7] at k ⊢
   by_cases c8:d.data.toList=[110,111,116]
   ·rw [if_pos c8] at k ⊢;exact h.head1 k
   rw [if_neg c8] at k ⊢
   exact k
 | .alts [] q=>exact k
 | .alts (x::l) q=>exact h.two k
 | .row [] q=>exact k
 | .row (x::l) q=>exact h.two k
 | .rowH [] l=>exact k
 | .rowH ((ks,e)::hs) l=>exact h.two k
 | .again x q=>exact h.two k
 | .againH [] x=>exact k
 | .againH ((ks,e)::hs) x=>exact h.two k
theorem runW_succ:∀k,LeW (runW G items k) (runW G items (k+1))
 | 0,t,o,h=>by cases h
 | k+1,t,o,h=>stepW_le (runW_succ k) t o h
theorem runW_le {k k':Nat} (h:k≤k'):LeW (runW G items k) (runW G items k'):=by
 induction h with
 | refl=>exact fun t o h=>h
 | step _ ih=>exact fun t o h=>runW_succ _ t o (ih t o h)
theorem runW_two {k1 k2:Nat} {t t':TaskW} {f:OutW→TaskW} {g:OutW→OutW→OutW} {a b:OutW} (st:∀rc:TaskW→Option OutW,stepW G items rc t=two rc t' f g) (h1:runW G items k1 t'=some a) (h2:runW G items k2 (f a)=some b):runW G items (max k1 k2+1) t=some (g a b):=by
 show stepW G items (runW G items (max k1 k2)) t=_
 rw [st]
 unfold two
 rw [runW_le (Nat.le_max_left k1 k2) _ _ h1]
 simp only [Option.bind_some]
 rw [runW_le (Nat.le_max_right k1 k2) _ _ h2]
 rfl
theorem runW_inv {k:Nat} {t t':TaskW} {f:OutW→TaskW} {g:OutW→OutW→OutW} {o:OutW} (st:∀rc:TaskW→Option OutW,stepW G items rc t=two rc t' f g) (h:runW G items k t=some o):∃k' a b,k'+1=k∧runW G items k' t'=some a∧runW G items k' (f a)=some b∧o=g a b:=by
 cases k with
 | zero=>cases h
 | succ k =>
   change stepW G items (runW G items k) t=some o at h
   rw [st] at h
   unfold two at h
   rw [Option.bind_eq_some_iff] at h
   obtain ⟨a,h1,h2⟩:=h
   rw [Option.map_eq_some_iff] at h2
   obtain ⟨b,h3,h4⟩:=h2
   exact ⟨k,a,b,rfl,h1,h3,h4.symm⟩
def okH (N C:Nat) (hs:List Way):Prop:=∀w∈hs,w.2≤N∧w.1.length≤C∧∀p∈w.1,Few p
theorem okH.mono {N C C':Nat} {hs:List Way} (h:okH N C hs) (hc:C≤C'):okH N C' hs:=fun w hw=>⟨(h w hw).1,Nat.le_trans (h w hw).2.1 hc,(h w hw).2.2⟩
def slackW:TaskW→Nat
 | .row _ _=>1
 | .rowH hs _=>hs.length
 | _=>0
theorem oneW_cost {w:Option ByteArray} {q:Nat}:(oneW items w q).2.1=1∧(oneW items w q).1.length≤1:=by
 unfold oneW
 split
 ·split<;>exact ⟨rfl,by simp⟩
 ·exact ⟨rfl,by simp⟩
theorem stepPW_cases {d t:ByteArray} {l:List Part} {q:Nat} {o:OutW} {M:OutW→Prop} (h:stepPW G items rc d t l q=some o)
  (h1:∀w,M (oneW items w q)) (h2:∀a,rc (.part (bodyOf G t) q)=some a→M (ruleW t a)) (h3:∀a,rc (.row l q)=some a→M (plusW a)) (h4:∀a,rc (.alts l q)=some a→M (plusW a)) (h5:∀x a,rc (.again x q)=some a→M (manyW a)) (h6:∀x a,rc (.part x q)=some a→M (optW q a)) (h7:∀x a,rc (.part x q)=some a→M (notW q a)) (h8:M ([([],q)],1,0)):M o:=by
 have hm:∀{x:Option OutW} {f:OutW→OutW},x.map f=some o→(∀a,x=some a→M (f a))→M o:=by
  intro x f e k
  rw [Option.map_eq_some_iff] at e
  obtain ⟨a,e1,rfl⟩:=e
  exact k a e1
 have hh:∀{f:Part→TaskW} {g:OutW→OutW},head1W rc f l g=some o→(∀x a,rc (f x)=some a→M (g a))→M o:=by
  intro f g e k
  cases l with
  | nil=>cases e
  | cons x l=>exact hm e (k x)
 unfold stepPW at h
 split at h
 ·injection h with h;subst h;exact h1 _
 split at h
 ·injection h with h;subst h;exact h1 _
 split at h
 ·exact hm h h2
 split at h
 ·exact hm h h3
 split at h
 ·exact hm h h4
 split at h
 ·exact hh h h5
 split at h
 ·exact hh h h6
 split at h
 ·exact hh h h7
 injection h with h
 subst h
 exact h8
theorem runW_pos {k:Nat} {p:Part} {q:Nat} {o:OutW} (h:runW G items k (.part p q)=some o):1≤o.2.1:=by
 cases k with
 | zero=>cases h
 | succ k =>
   obtain ⟨d,t,l⟩:=p
   exact stepPW_cases (M:=fun o=>1≤o.2.1) h (fun w=>Nat.le_of_eq oneW_cost.1.symm) (fun a _=>Nat.le_add_left _ _) (fun a _=>Nat.le_add_left _ _) (fun a _=>Nat.le_add_left _ _) (fun _ a _=>Nat.le_add_left _ _) (fun _ a _=>Nat.le_add_left _ _) (fun _ a _=>Nat.le_add_left _ _) (Nat.le_refl _)
theorem runW_len:∀(k:Nat) (t:TaskW) (o:OutW),runW G items k t=some o→o.1.length≤o.2.1+slackW t
 | 0,t,o,h=>by cases h
 | k+1,t,o,h=>by
   have ih:=runW_len k
   match t,h with
   | .part ⟨d,t,l⟩ q,h =>
     refine stepPW_cases (M:=fun o=>o.1.length≤o.2.1+0) h (fun w => ?_) (fun a e => ?_) (fun a e => ?_) (fun a e => ?_) (fun x a e => ?_) (fun x a e => ?_) (fun x a e => ?_) ?_
     ·have:=oneW_cost (items:=items) (w:=w) (q:=q);omega
     ·have:=ih _ _ e;simp [ruleW,slackW] at this ⊢;omega
     ·have:=ih _ _ e;simp [plusW,slackW] at this ⊢;omega
     ·have:=ih _ _ e;simp [plusW,slackW] at this ⊢;omega
     ·have:=ih _ _ e;simp [manyW,slackW] at this ⊢;omega
     ·have:=ih _ _ e;simp [optW,slackW] at this ⊢;omega
     ·unfold notW;split<;>simp
     ·simp
   | .alts [] q,h=>injection h with h;subst h;simp
   | .alts (x::l) q,h =>
     obtain ⟨k',a,b,e0,h1,h2,rfl⟩:=runW_inv (fun rc=>rfl) h
     injection e0 with e0;subst e0
     have:=ih _ _ h1;have:=ih _ _ h2
     simp [altW,slackW] at *;omega
   | .row [] q,h=>injection h with h;subst h;simp [slackW]
   | .row (x::l) q,h =>
     obtain ⟨k',a,b,e0,h1,h2,rfl⟩:=runW_inv (fun rc=>rfl) h
     injection e0 with e0;subst e0
     have:=ih _ _ h1;have:=ih _ _ h2
     simp [rowW,slackW] at *;omega
   | .rowH [] l,h=>injection h with h;subst h;simp
   | .rowH ((ks,e)::hs) l,h =>
     obtain ⟨k',a,b,e0,h1,h2,rfl⟩:=runW_inv (fun rc=>rfl) h
     injection e0 with e0;subst e0
     have:=ih _ _ h1;have:=ih _ _ h2
     simp [stepH,consW,slackW] at *;omega
   | .again x q,h =>
     obtain ⟨k',a,b,e0,h1,h2,rfl⟩:=runW_inv (fun rc=>rfl) h
     injection e0 with e0;subst e0
     have:=runW_pos h1;have:=ih _ _ h2
     simp [againW,slackW] at *;omega
   | .againH [] x,h=>injection h with h;subst h;simp
   | .againH ((ks,e)::hs) x,h =>
     obtain ⟨k',a,b,e0,h1,h2,rfl⟩:=runW_inv (fun rc=>rfl) h
     injection e0 with e0;subst e0
     have:=ih _ _ h1;have:=ih _ _ h2
     simp [stepH,consW,slackW] at *;omega
def preW (N C:Nat):TaskW→Prop
 | .rowH hs _=>okH N C hs
 | .againH hs _=>okH N C hs
 | .part _ q=>q≤N∧C=0
 | .alts _ q=>q≤N∧C=0
 | .row _ q=>q≤N∧C=0
 | .again _ q=>q≤N∧C=0
theorem okH_one {N C q:Nat} (hq:q≤N):okH N C [([],q)]:=fun w hw=>by
 simp at hw
 subst hw
 exact ⟨hq,Nat.zero_le _,fun p hp=>by simp at hp⟩
theorem okH_app {N C:Nat} {a b:List Way} (ha:okH N C a) (hb:okH N C b):okH N C (a++b):=fun w hw=>by
 rcases List.mem_append.1 hw with h|h
 ·exact ha w h
 ·exact hb w h
theorem okH_cons {N C D:Nat} {ks:List Part} {e:Nat} {rs:List Way} (h1:ks.length≤C∧∀p∈ks,Few p) (h2:okH N D rs):okH N (C+D) (consW ks rs):=fun w hw=>by
 unfold consW at hw
 rw [List.mem_map] at hw
 obtain ⟨r,hr,rfl⟩:=hw
 obtain ⟨b1,b2,b3⟩:=h2 r hr
 refine ⟨b1,by rw [List.length_append];omega,fun p hp => ?_⟩
 rcases List.mem_append.1 hp with hp|hp
 ·exact h1.2 p hp
 ·exact b3 p hp
theorem okH_map {N C:Nat} {rs:List Way} (f:List Part→Part) (hf:∀l:List Part,l.length≤100000→(∀p∈l,Few p)→Few (f l)) (hC:C≤100000) (h:okH N C rs):okH N (C+1) (rs.map fun w=>([f w.1],w.2)):=fun w hw=>by
 rw [List.mem_map] at hw
 obtain ⟨r,hr,rfl⟩:=hw
 obtain ⟨b1,b2,b3⟩:=h r hr
 refine ⟨b1,by simp,fun p hp => ?_⟩
 simp at hp
 subst hp
 exact hf _ (by omega) b3
theorem runW_ok {N:Nat} (hN:items.length=N):∀(k:Nat) (t:TaskW) (o:OutW) (C:Nat),runW G items k t=some o→preW N C t→C+o.2.1≤100000→okH N (C+o.2.1) o.1
 | 0,t,o,C,h,_,_=>by cases h
 | k+1,t,o,C,h,hp,hc=>by
   have ih:=runW_ok hN k
   match t,h,hp with
   | .part ⟨d,t,l⟩ q,h,hp =>
     obtain ⟨hq,rfl⟩:=hp
     refine stepPW_cases (M:=fun o=>0+o.2.1≤100000→okH N (0+o.2.1) o.1) h (fun w _ => ?_) (fun a e hc => ?_) (fun a e hc => ?_) (fun a e hc => ?_) (fun x a e hc => ?_) (fun x a e hc => ?_) (fun x a e hc => ?_) (fun _=>okH_one hq) hc
     ·unfold oneW
      split
      ·rename_i s hs
       have:=get_lt' hs
       split
       ·intro w hw
        simp at hw
        subst hw
        refine ⟨by show q+1≤N;omega,by simp,fun p hp => ?_⟩
        simp at hp
        subst hp
        exact few_of (by simp) (fun p hp=>by simp at hp)
       ·intro w hw;simp at hw
      ·intro w hw;simp at hw
     ·have hc:0+(a.2.1+1)≤100000:=hc
      have:=okH_map (ruleT t) (fun l h1 h2=>few_of h1 h2) (by omega) (ih _ _ 0 e ⟨hq,rfl⟩ (by omega))
      exact this.mono (by show 0+a.2.1+1≤0+(a.2.1+1);omega)
     ·have hc:0+(a.2.1+1)≤100000:=hc
      exact (ih _ _ 0 e ⟨hq,rfl⟩ (by omega)).mono (by show 0+a.2.1≤0+(a.2.1+1);omega)
     ·have hc:0+(a.2.1+1)≤100000:=hc
      exact (ih _ _ 0 e ⟨hq,rfl⟩ (by omega)).mono (by show 0+a.2.1≤0+(a.2.1+1);omega)
     ·have hc:0+(a.2.1+1)≤100000:=hc
      have:=okH_map manyT (fun l h1 h2=>few_of h1 h2) (by omega) (ih _ _ 0 e ⟨hq,rfl⟩ (by omega))
      exact this.mono (by show 0+a.2.1+1≤0+(a.2.1+1);omega)
     ·have hc:0+(a.2.1+1)≤100000:=hc
      exact okH_app ((ih _ _ 0 e ⟨hq,rfl⟩ (by omega)).mono (by show 0+a.2.1≤0+(a.2.1+1);omega)) (okH_one hq)
     ·unfold notW
      split
      ·intro w hw;simp at hw
      ·exact okH_one hq
   | .alts [] q,h,hp=>injection h with h;subst h;intro w hw;simp at hw
   | .alts (x::l) q,h,hp =>
     obtain ⟨k',a,b,e0,h1,h2,rfl⟩:=runW_inv (fun rc=>rfl) h
     injection e0 with e0;subst e0
     obtain ⟨hq,rfl⟩:=hp
     have hc:0+(a.2.1+b.2.1)≤100000:=hc
     exact okH_app ((ih _ _ 0 h1 ⟨hq,rfl⟩ (by omega)).mono (by show 0+a.2.1≤0+(a.2.1+b.2.1);omega)) ((ih _ _ 0 h2 ⟨hq,rfl⟩ (by omega)).mono (by show 0+b.2.1≤0+(a.2.1+b.2.1);omega))
   | .row [] q,h,hp=>injection h with h;subst h;exact okH_one hp.1
   | .row (x::l) q,h,hp =>
     obtain ⟨k',a,b,e0,h1,h2,rfl⟩:=runW_inv (fun rc=>rfl) h
     injection e0 with e0;subst e0
     obtain ⟨hq,rfl⟩:=hp
     have hc:0+(a.2.1+b.2.1)≤100000:=hc
     have g1:=ih _ _ 0 h1 ⟨hq,rfl⟩ (by omega)
     exact (ih _ _ (0+a.2.1) h2 g1 (by omega)).mono (by show 0+a.2.1+b.2.1≤0+(a.2.1+b.2.1);omega)
   | .rowH [] l,h,hp=>injection h with h;subst h;intro w hw;simp at hw
   | .rowH ((ks,e)::hs) l,h,hp =>
     obtain ⟨k',a,b,e0,h1,h2,rfl⟩:=runW_inv (fun rc=>rfl) h
     injection e0 with e0;subst e0
     have hp:okH N C ((ks,e)::hs):=hp
     have hc:C+(a.2.1+b.2.1)≤100000:=hc
     obtain ⟨p1,p2,p3⟩:=hp (ks,e) (.head _)
     have g1:=ih _ _ 0 h1 ⟨p1,rfl⟩ (by omega)
     have g2:=ih _ _ C h2 (fun w hw=>hp w (.tail _ hw)) (by omega)
     exact okH_app ((okH_cons (e:=e) ⟨p2,p3⟩ g1).mono (by show C+(0+a.2.1)≤C+(a.2.1+b.2.1);omega)) (g2.mono (by show C+b.2.1≤C+(a.2.1+b.2.1);omega))
   | .again x q,h,hp =>
     obtain ⟨k',a,b,e0,h1,h2,rfl⟩:=runW_inv (fun rc=>rfl) h
     injection e0 with e0;subst e0
     obtain ⟨hq,rfl⟩:=hp
     have hc:0+(a.2.1+b.2.1)≤100000:=hc
     have g1:=ih _ _ 0 h1 ⟨hq,rfl⟩ (by omega)
     exact okH_app ((ih _ _ (0+a.2.1) h2 g1 (by omega)).mono (by show 0+a.2.1+b.2.1≤0+(a.2.1+b.2.1);omega)) (okH_one hq)
   | .againH [] x,h,hp=>injection h with h;subst h;intro w hw;simp at hw
   | .againH ((ks,e)::hs) x,h,hp =>
     obtain ⟨k',a,b,e0,h1,h2,rfl⟩:=runW_inv (fun rc=>rfl) h
     injection e0 with e0;subst e0
     have hp:okH N C ((ks,e)::hs):=hp
     have hc:C+(a.2.1+b.2.1)≤100000:=hc
     obtain ⟨p1,p2,p3⟩:=hp (ks,e) (.head _)
     have g1:=ih _ _ 0 h1 ⟨p1,rfl⟩ (by omega)
     have g2:=ih _ _ C h2 (fun w hw=>hp w (.tail _ hw)) (by omega)
     exact okH_app ((okH_cons (e:=e) ⟨p2,p3⟩ g1).mono (by show C+(0+a.2.1)≤C+(a.2.1+b.2.1);omega)) (g2.mono (by show C+b.2.1≤C+(a.2.1+b.2.1);omega))
end Go.Ev.G24
end
section
namespace Go.Ev.G24
open Go.RowKit Go.Proofs
variable {h h1 h2:Hp} {e:TypeId} {s:Nat} {B F B' F':Nat→Prop} {mk:Value→Nat→List Value}
def WaysAt (mk:Value→Nat→List Value) (e:TypeId) (s:Nat) (h:Hp) (n0 f0:Nat) (B F:Nat→Prop) (ws:List Way) (v:Value):Prop:=∃cs,OwnG e s h n0 f0 ws.length cs v ∧
 ∀(i:Nat) (w:Way),ws[i]? = some w→∃kv,takeN (cs.drop (i*s)) s=some (mk kv w.2)∧KidsAt h (fun x=>B x∨ownB v x) (fun q=>F q∨ownF h v q) w.1 kv
theorem WaysAt.nil {n0 f0:Nat}:WaysAt mk e s h n0 f0 B F [] (.slice none 0 0):=⟨[],.inl ⟨rfl,rfl,rfl⟩,fun i w hw=>by simp at hw⟩
theorem WaysAt.slice {n0 f0:Nat} {ws:List Way} {v:Value} (k:WaysAt mk e s h n0 f0 B F ws v):∃A,v=.slice A ws.length ws.length∧spotless A=true:=by
 obtain ⟨cs,h1,_⟩:=k
 exact h1.slice
theorem WaysAt.lt {n0 f0:Nat} {ws:List Way} {v:Value} (k:WaysAt mk e s h n0 f0 B F ws v) {x:Nat} (hx:ownB v x):n0≤x∧x<h.next:=by
 obtain ⟨cs,h1,_⟩:=k
 exact h1.lt hx
theorem WaysAt.ownF_same {S:Nat→Prop} {n0 f0:Nat} {ws:List Way} {v:Value} (k:WaysAt mk e s h n0 f0 B F ws v) (x:ExtS S h h1) (hS:∀b,ownB v b→¬S b) {q:Nat} (hq:ownF h1 v q):ownF h v q:=by
 obtain ⟨cs,h1,_⟩:=k
 exact h1.ownF_same x hS hq
theorem WaysAt.extS {S:Nat→Prop} (x:ExtS S h h1) (n:NoRow h S) {n0 f0:Nat} {ws:List Way} {v:Value} (k:WaysAt mk e s h n0 f0 B F ws v) (hS:∀b,ownB v b→¬S b):WaysAt mk e s h1 n0 f0 B F ws v:=by
 have k0:=k
 obtain ⟨cs,h1,h2⟩:=k
 refine ⟨cs,h1.ext x hS,fun i w hw => ?_⟩
 obtain ⟨kv,a1,a2⟩:=h2 i w hw
 exact ⟨kv,a1,(a2.keep (keepsN x n).any).more (fun b _ c=>c) (fun f c=>.inl (c.elim .inl (fun c=>.inr (k0.ownF_same x hS c))))⟩
theorem WaysAt.ext (x:Ext h h1) {n0 f0:Nat} {ws:List Way} {v:Value} (k:WaysAt mk e s h n0 f0 B F ws v):WaysAt mk e s h1 n0 f0 B F ws v:=k.extS (S:=fun _=>False) x.toS (fun _ _ _ _ c=>c) (fun _ _ c=>c)
theorem WaysAt.more {n0 f0:Nat} {ws:List Way} {v:Value} (hB:∀b,b<h.next→B' b→B b) (hF:∀f,F' f→F f∨(f≠0∧h.nfam≤f)) (k:WaysAt mk e s h n0 f0 B F ws v):WaysAt mk e s h n0 f0 B' F' ws v:=by
 obtain ⟨cs,h1,h2⟩:=k
 refine ⟨cs,h1,fun i w hw => ?_⟩
 obtain ⟨kv,a1,a2⟩:=h2 i w hw
 exact ⟨kv,a1,a2.more (fun b hb c=>c.elim (fun c=>.inl (hB b hb c)) .inr) (fun f c=>c.elim (fun c=>(hF f c).elim (fun c=>.inl (.inl c)) .inr) (fun c=>.inl (.inr c)))⟩
theorem WaysAt.low {n0 f0 n1 f1:Nat} {ws:List Way} {v:Value} (k:WaysAt mk e s h n0 f0 B F ws v) (h1:n1≤n0) (h2:f1≤f0):WaysAt mk e s h n1 f1 B F ws v:=by
 obtain ⟨cs,k1,k2⟩:=k
 refine ⟨cs,?_,k2⟩
 rcases k1 with k1|⟨b,f,a2,a3,a4,a5,a6⟩
 ·exact .inl k1
 ·exact .inr ⟨b,f,a2,a3,a4,Nat.le_trans h1 a5,fun c=>Nat.le_trans h2 (a6 c)⟩
theorem WaysAt.get {n0 f0:Nat} {ws:List Way} {v:Value} (k:WaysAt mk e s h n0 f0 B F ws v) {i:Nat} {w:Way} (hi:ws[i]? = some w):∃b kv,v=.slice (some ⟨b,0,none⟩) ws.length ws.length∧h.loads ⟨b,i*s,none⟩ s=some (mk kv w.2)∧KidsAt h (fun x=>B x∨ownB v x) (fun q=>F q∨ownF h v q) w.1 kv:=by
 obtain ⟨cs,k1,k2⟩:=k
 obtain ⟨kv,a1,a2⟩:=k2 i w hi
 rcases k1 with ⟨h0,_⟩|⟨b,f,rfl,hr,_⟩
 ·have:=get_lt' hi;omega
 ·exact ⟨b,kv,rfl,by rw [rowE_loads hr,a1],a2⟩
def Beside (h:Hp) (v u:Value):Prop:=(∀b,ownB v b→¬ownB u b)∧∀f,ownF h v f→¬ownF h u f
def encR (kv:Value) (e:Nat):List Value:=[kv,.int .i64 (e:Int)]
end Go.Ev.G24
end
section
namespace Go.Ev.G24
open Go.RowKit Go.Proofs
variable {h h1 h2:Hp} {B F B' F':Nat→Prop}
def KidsO (h:Hp) (n0 f0:Nat) (B F:Nat→Prop) (l:List Part) (v:Value):Prop:=∃(cs:List Value) (css:Nat→List Value),OwnG 31 3 h n0 f0 l.length cs v∧(∀(i:Nat) (p:Part),l[i]? = some p→takeN (cs.drop (i*3)) 3=some (css i)) ∧
 ∀(i:Nat) (p:Part),l[i]? = some p→TreeAt h (fun x=>B x∨ownB v x) (fun q=>F q∨ownF h v q) p (css i)
theorem KidsO.kids {n0 f0:Nat} {l:List Part} {v:Value} (k:KidsO h n0 f0 B F l v) (hB:∀b,B b→b<n0) (hF:∀f,F f→f≠0∧f<f0):KidsAt h B F l v:=by
 obtain ⟨cs,css,k1,k2,k3⟩:=k
 rcases k1 with ⟨h0,rfl,rfl⟩|⟨b,f,rfl,hr,hl,hb,hf⟩
 ·have:l=[]:=List.length_eq_zero_iff.1 h0
  subst this
  exact KidsAt.nil
 ·refine ⟨_,_,b,0,f,cs,css,rfl,Nat.le_refl _,rfl,fun _=>⟨rfl,⟨hr.lo,hr.lt,hr.row,hr.fl⟩,fun c=>by have:=hB _ c;omega,fun c=>by
   have:=hF _ c
   have:=hf this.1
   omega⟩,fun i p hp=>by rw [Nat.zero_add];exact k2 i p hp,fun i p hp=>(k3 i p hp).more (fun x _ c=>.inl c) (fun q c=>.inl (.inl c))⟩
def OldB (h:Hp):Nat→Prop:=fun b=>b<h.next
def OldF (h:Hp):Nat→Prop:=fun f=>f≠0∧f<h.nfam
end Go.Ev.G24
end
section
namespace Go.Ev.G24
open Go.RowKit Go.Proofs
variable {r:Ro} {G:List Rule} {items:List ByteArray} {Gv Iv:Option Addr} {gc ic xb:Nat}
def lowW (s:Int):Int:=if s<0 then s - 1 else -((s+1)*200001)
def deadW (N:Nat) (s:Int) (ws:List Way):Prop:=(s<0→ws=[])∧ws.length≤2*(s.toNat+1)∧okH N (s.toNat+1) ws
abbrev WR (h:Hp) (n0 f0:Nat) (B F:Nat→Prop) (ws:List Way) (v:Value):Prop:=WaysAt encR 85 2 h n0 f0 B F ws v
theorem Beside.ext {h h1:Hp} {e1 e2:TypeId} {s1 s2 n0 f0 n1 f1:Nat} {mk1 mk2:Value→Nat→List Value} {B F B2 F2:Nat→Prop} {ws us:List Way} {v u:Value} (x:Ext h h1) (kv:WaysAt mk1 e1 s1 h n0 f0 B F ws v) (ku:WaysAt mk2 e2 s2 h n1 f1 B2 F2 us u) (D:Beside h v u):Beside h1 v u :=
 ⟨D.1,fun f c c'=>D.2 f (kv.ownF_same (S:=fun _=>False) x.toS (fun _ _ c=>c) c) (ku.ownF_same (S:=fun _=>False) x.toS (fun _ _ c=>c) c')⟩
end Go.Ev.G24
end
section
namespace Go.Ev.G24
open Go.RowKit Go.Proofs
variable {r:Ro} {G:List Rule} {items:List ByteArray} {Gv Iv:Option Addr} {gc ic xb:Nat}
def LoopW (G:List Rule) (items:List ByteArray) (TH:List Way→TaskW) (N:Nat) (s s1:Int) (wh:List Way) (i:Nat) (wo:List Way) (z:Int):Prop :=
 okH N (s.toNat+1) wo∧((0≤z∧(wo.length:Int)+z≤s1∧∃U X:Nat,z=s1 - (U:Int) - (X:Int)∧∀k o,runW G items k (TH (wh.drop i))=some o→∃k',runW G items k' (TH wh)=some (wo++o.1,U+o.2.1,X+o.2.2)) ∨
  (z<0∧lowW s≤z∧wo.length≤2*s.toNat+1))
theorem LoopW.start {TH:List Way→TaskW} {N:Nat} {s s1:Int} {wh:List Way} (h:0≤s1∨(s1<0∧lowW s≤s1)):LoopW G items TH N s s1 wh 0 [] s1:=by
 refine ⟨fun w hw=>by simp at hw,?_⟩
 rcases h with h|⟨h1,h2⟩
 ·exact .inl ⟨h,by simp,0,0,by simp,fun k o e=>⟨k,by rw [List.drop_zero] at e;rw [e];simp⟩⟩
 ·exact .inr ⟨h1,h2,Nat.zero_le _⟩
theorem LoopW.len {TH:List Way→TaskW} {N:Nat} {s s1 z:Int} {wh wo:List Way} {i:Nat} (L:LoopW G items TH N s s1 wh i wo z) (h1:s1≤s) (h2:s≤50000):wo.length≤100001:=by
 rcases L.2 with ⟨a,b,_⟩|⟨a,b,c⟩<;>omega
theorem LoopW.step {TH:List Way→TaskW} {T:Nat→TaskW} {N:Nat} (hN:items.length=N) (st:∀(ks:List Part) (e:Nat) (hs:List Way) (rc:TaskW→Option OutW),stepW G items rc (TH ((ks,e)::hs))=two rc (T e) (fun _=>TH hs) (stepH ks))
  (sl:∀e,slackW (T e)≤1) (pr:∀e,e≤N→preW N 0 (T e)) {s s1 z z':Int} {wh wo ws:List Way} {i e:Nat} {ks:List Part} (hs2:s≤50000) (hok:okH N (s - s1).toNat wh) (h01:0≤s1) (h02:s1+1≤s) (hi:wh[i]? = some (ks,e)) (L:LoopW G items TH N s s1 wh i wo z) (hz:0≤z)
  (hsub:(∃k o,runW G items k (T e)=some o∧z'=z - (o.2.1:Int) - (o.2.2:Int)∧0≤z'∧ws=o.1)∨(z'<0∧lowW z≤z'∧deadW N z ws)) :
  LoopW G items TH N s s1 wh (i+1) (wo++consW ks ws) (z' - (ws.length:Int)):=by
 obtain ⟨L1,L2⟩:=L
 obtain ⟨he,hkl,hkf⟩:=hok (ks,e) (List.mem_of_getElem? hi)
 have hkl:ks.length≤(s - s1).toNat:=hkl
 have he:e≤N:=he
 rcases L2 with ⟨_,b,U,X,hU,hcont⟩|⟨a,_⟩
 rotate_left
 ·omega
 have hll:(wo++consW ks ws).length=wo.length+ws.length:=by unfold consW;rw [List.length_append,List.length_map]
 rcases hsub with ⟨k,o,hrun,hz',hz0,rfl⟩|⟨hz0,hlo,_,hwl,hdo⟩
 ·have hlen:=runW_len _ _ _ hrun
  have hsl:=sl e
  have hok2:=runW_ok hN _ _ _ 0 hrun (pr e he) (by omega)
  refine ⟨okH_app L1 ((okH_cons (e:=e) ⟨hkl,hkf⟩ hok2).mono (by omega)),?_⟩
  have hcw:(consW ks o.1).length=o.1.length:=by unfold consW;rw [List.length_map]
  rw [hll]
  by_cases hn:0≤z' - (o.1.length:Int)
  ·refine .inl ⟨hn,by omega,U+o.2.1,X+o.2.2+o.1.length,by omega,fun k2 o2 h2 => ?_⟩
   have hdr:wh.drop i=(ks,e)::wh.drop (i+1):=by
    have hl:=get_lt' hi
    rw [List.drop_eq_getElem_cons hl]
    rw [List.getElem?_eq_getElem hl] at hi
    injection hi with hi
    rw [hi]
   have h3:=runW_two (st ks e (wh.drop (i+1))) hrun h2
   obtain ⟨k',hk'⟩:=hcont _ _ (by rw [hdr];exact h3)
   refine ⟨k',?_⟩
   rw [hk']
   simp only [stepH,List.append_assoc,Option.some.injEq,Prod.mk.injEq,true_and]
   constructor<;>omega
  ·have:lowW s≤z' - (o.1.length:Int):=by
    unfold lowW
    rw [if_neg (by omega)]
    omega
   exact .inr ⟨by omega,this,by omega⟩
 ·refine ⟨okH_app L1 ((okH_cons (e:=e) ⟨hkl,hkf⟩ hdo).mono (by omega)),?_⟩
  rw [hll]
  have:lowW s≤z' - (ws.length:Int):=by
   unfold lowW at hlo ⊢
   rw [if_neg (by omega)] at hlo ⊢
   omega
  exact .inr ⟨by omega,this,by omega⟩
@[go_sem] theorem lo_only {α : Type} (x : α) : (some x).toList ++ (none : Option α).toList ++ (none : Option α).toList = [x] := rfl
@[go_sem] theorem bind_one {α β : Type} (x : α) (f : α → Option β) : (some x).bind f = f x := rfl
@[go_sem] theorem bind_no {α β : Type} (f : α → Option β) : (none : Option α).bind f = none := rfl
end Go.Ev.G24
end
section
namespace Go.Ev.G24
open Go.RowKit Go.Proofs
variable {r:Ro} {G:List Rule} {items:List ByteArray} {Gv Iv:Option Addr} {gc ic xb:Nat}
end Go.Ev.G24
end
section
namespace Go.Ev.G24
open Go.RowKit Go.Proofs
variable {r:Ro} {G:List Rule} {items:List ByteArray} {Gv Iv:Option Addr} {gc ic xb:Nat}
theorem LoopW.done {TH:List Way→TaskW} {N:Nat} {s s1 z:Int} {wh wo:List Way} {i:Nat} (L:LoopW G items TH N s s1 wh i wo z) (he:z<0∨i=wh.length) (st:runW G items 1 (TH [])=some ([],0,0)) :
  (0≤z∧0≤s1∧∃k' U X,runW G items k' (TH wh)=some (wo,U,X)∧z=s1 - (U:Int) - (X:Int))∨(z<0∧lowW s≤z∧wo.length≤2*s.toNat+1∧okH N (s.toNat+1) wo):=by
 obtain ⟨L1,L2⟩:=L
 rcases L2 with ⟨a,b,U,X,hU,hc⟩|⟨a,b,c⟩
 ·rcases he with he|he
  ·omega
  ·subst he
   obtain ⟨k',hk'⟩:=hc 1 ([],0,0) (by rw [List.drop_length];exact st)
   refine .inl ⟨a,by omega,k',U,X,?_,hU⟩
   simpa using hk'
 ·exact .inr ⟨a,b,c,L1⟩
end Go.Ev.G24
end
section
namespace Go.Ev.G24
open Go.RowKit Go.Proofs
variable {r:Ro} {G:List Rule} {items:List ByteArray} {Gv Iv:Option Addr} {gc ic xb:Nat}
def AltW (G:List Rule) (items:List ByteArray) (l:List Part) (q N:Nat) (s:Int) (i:Nat) (wo:List Way) (z:Int):Prop :=
 okH N (s.toNat+1) wo∧((0≤z∧(wo.length:Int)+z≤s∧∃U X:Nat,z=s - (U:Int) - (X:Int)∧∀k o,runW G items k (.alts (l.drop i) q)=some o→∃k',runW G items k' (.alts l q)=some (wo++o.1,U+o.2.1,X+o.2.2)) ∨
  (z<0 ∧ -((s+1)*200001) - (i:Int)≤z∧wo.length≤2*(s.toNat+1)))
theorem AltW.start {l:List Part} {q N:Nat} {s:Int} (h:0≤s):AltW G items l q N s 0 [] s :=
 ⟨fun w hw=>by simp at hw,.inl ⟨h,by simp,0,0,by simp,fun k o e=>⟨k,by rw [List.drop_zero] at e;rw [e];simp⟩⟩⟩
theorem AltW.step {l:List Part} {q:Nat} {p:Part} {s z z':Int} {wo ws:List Way} {i:Nat} (hs:0≤s) (hs2:s≤50000) (hq:q≤items.length) (hi:l[i]? = some p) (L:AltW G items l q items.length s i wo z)
  (hsub:(∃k o,runW G items k (.part p q)=some o∧z'=z - (o.2.1:Int) - (o.2.2:Int)∧0≤z'∧ws=o.1)∨(z'<0∧lowW z≤z'∧deadW items.length z ws)):AltW G items l q items.length s (i+1) (wo++ws) z':=by
 obtain ⟨L1,L2⟩:=L
 have hll:(wo++ws).length=wo.length+ws.length:=List.length_append
 rcases L2 with ⟨hz,b,U,X,hU,hcont⟩|⟨hz,hlo2,hwl⟩
 ·rcases hsub with ⟨k,o,hrun,hz',hz0,rfl⟩|⟨hz0,hlo,_,hwl,hdo⟩
  ·have hlen:=runW_len _ _ _ hrun
   have hok2:=runW_ok rfl _ _ _ 0 hrun (by exact ⟨hq,rfl⟩) (by omega)
   have hsl:slackW (.part p q)=0:=rfl
   refine ⟨okH_app L1 (hok2.mono (by omega)),.inl ⟨hz0,by omega,U+o.2.1,X+o.2.2,by omega,fun k2 o2 h2 => ?_⟩⟩
   have hdr:l.drop i=p::l.drop (i+1):=by
    have hl:=get_lt' hi
    rw [List.drop_eq_getElem_cons hl]
    rw [List.getElem?_eq_getElem hl] at hi
    injection hi with hi
    rw [hi]
   have h3:=runW_two (t:=.alts (p::l.drop (i+1)) q) (fun rc=>rfl) hrun h2
   obtain ⟨k',hk'⟩:=hcont _ _ (by rw [hdr];exact h3)
   refine ⟨k',?_⟩
   rw [hk']
   simp only [altW,List.append_assoc,Option.some.injEq,Prod.mk.injEq,true_and]
   constructor<;>omega
  ·refine ⟨okH_app L1 (hdo.mono (by omega)),.inr ⟨hz0,?_,by omega⟩⟩
   unfold lowW at hlo
   rw [if_neg (by omega)] at hlo
   omega
 ·rcases hsub with ⟨k,o,hrun,hz',hz0,rfl⟩|⟨hz0,hlo,hno,_,_⟩
  ·omega
  ·have hno:=hno hz
   subst hno
   rw [List.append_nil]
   unfold lowW at hlo
   rw [if_pos hz] at hlo
   exact ⟨L1,.inr ⟨hz0,by omega,hwl⟩⟩
theorem AltW.done {l:List Part} {q:Nat} {s z:Int} {wo:List Way} (L:AltW G items l q items.length s l.length wo z) :
  (∃k o,runW G items k (.alts l q)=some o∧z=s - (o.2.1:Int) - (o.2.2:Int)∧0≤z∧wo=o.1)∨(z<0 ∧ -((s+1)*200001) - (l.length:Int)≤z∧wo.length≤2*(s.toNat+1)∧okH items.length (s.toNat+1) wo):=by
 obtain ⟨L1,L2⟩:=L
 rcases L2 with ⟨hz,b,U,X,hU,hcont⟩|⟨hz,hlo2,hwl⟩
 ·obtain ⟨k',hk'⟩:=hcont 1 ([],0,0) (by rw [List.drop_length];rfl)
  exact .inl ⟨k',_,hk',by simpa using hU,hz,by simp⟩
 ·exact .inr ⟨hz,hlo2,hwl,L1⟩
end Go.Ev.G24
end
section
namespace Go.Ev.G24
open Go.RowKit Go.Proofs
variable {r:Ro} {G:List Rule} {items:List ByteArray} {Gv Iv:Option Addr} {gc ic xb:Nat}
theorem WR.pre {h h2 h1:Hp} {ws:List Way} {v:Value} (x:ExtS (Only xb) h h2) (k:WR h1 h2.next h2.nfam (OldB h2) (OldF h2) ws v):WR h1 h.next h.nfam (OldB h) (OldF h) ws v :=
 (k.low x.next x.nfam).more (fun b _ c=>Nat.lt_of_lt_of_le c x.next) (fun f c=>.inl ⟨c.1,Nat.lt_of_lt_of_le c.2 x.nfam⟩)
end Go.Ev.G24
end
section
namespace Go.Ev.G24
open Go.RowKit Go.Proofs
variable {r:Ro} {G:List Rule} {items:List ByteArray} {Gv Iv:Option Addr} {gc ic xb:Nat}
theorem KidsAt.no {h:Hp} {B F:Nat→Prop} {l:List Part} {v:Value} (k:KidsAt h B F l v):KidsAt h No No l v:=k.more (fun b _ c=>c.elim) (fun f c=>c.elim)
theorem TreeAt.no {h:Hp} {B F:Nat→Prop} {p:Part} {v:List Value} (k:TreeAt h B F p v):TreeAt h No No p v:=k.more (fun b _ c=>c.elim) (fun f c=>c.elim)
end Go.Ev.G24
end
section
namespace Go.Ev.G24
open Go.RowKit Go.Proofs
variable {G:List Rule} {items:List ByteArray}
end Go.Ev.G24
end
section
namespace Go.Ev.G24
open Go.RowKit Go.Proofs
def strs (l:List ByteArray):List Value:=l.map Value.string
theorem strs_app (a b:List ByteArray):strs (a++b)=strs a++strs b:=List.map_append
theorem strs_cell (l:List ByteArray):(strs l).all oneCell=true:=by
 unfold strs
 rw [List.all_map]
 exact List.all_eq_true.2 fun x _=>rfl
theorem strs_len (l:List ByteArray):(strs l).length=l.length:=List.length_map _
end Go.Ev.G24
end
section
namespace Go.Ev.G24
open Go.RowKit Go.Proofs
end Go.Ev.G24
end
