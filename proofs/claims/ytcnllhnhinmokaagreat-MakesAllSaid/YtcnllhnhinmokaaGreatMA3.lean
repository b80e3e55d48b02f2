/- The law MakesAll holds: for every grammar, rule and number, Makes answers with the document's lists in their order, where the document's answer speaks (at most 300 lists, of at most 6 items): part 4 of 6. -/
import Derived.Test.YtcnllhnhinmokaaGreatMA2
import Derived.Sort.Grow
import Derived.Sort.EncStr
import Derived.Shelf.SlSortCmp.NoneTotal
import Derived.Lib.Walk
import Derived.Deep.LoopGhost
set_option linter.unusedVariables false
set_option linter.unusedSimpArgs false
set_option maxRecDepth 100000
set_option maxHeartbeats 16000000
section
namespace Go.Ev.Z24
open Go.RowKit Go.Proofs
section
variable {r:Ro} {G:List ar} {Gv:Option Addr} {gc mb most cap:Nat} {made:List (List Tx)}
def rx (r:Ro) (G:List ar) (mb:Nat) (made:List (List Tx)) (Gv:Option Addr) (gc most cap:Nat) (p:ad):Prop:=∀(h:Hp) (cs:List Value),h.rom=r->h.base<=h.next->MadeAt h mb made->RoPart r p cs->ay (nms G) p=true ->
 ∃v h1,Snd Tryz.prog 21 [.agg #[.slice Gv G.length gc],.slice (some ⟨mb,0,none⟩) G.length G.length,.agg cs.toArray,.int .i64 (most:Int),.int .i64 (cap:Int)] h v h1/\Ext h h1/\∃w,v=.tuple #[w,.bool (mkP (nms G) made most cap p).2]/\LLV h1 w (mkP (nms G) made most cap p).1
theorem yX {h:Hp} {b:Nat} {e:TypeId} {c:List Value} (k:h.own b e c) {n:Nat} (hn:n=c.length):OwnZ e h 0 0 c (.slice (some ⟨b,0,none⟩) n n):=by
 subst hn
 exact .inr ⟨b,0,rfl,⟨k.1,k.2.1,⟨0,false,mV k⟩,fun e=>absurd rfl e⟩,lZr _,fun e=>absurd rfl e⟩
theorem LLV.oneNil {h:Hp} {b:Nat} (k:h.own b 34 [.slice none 0 0]):LLV h (.slice (some ⟨b,0,none⟩) 1 1) [[]]:=⟨[.slice none 0 0],yX k rfl,TxVs.one (.inl ⟨rfl,rfl⟩)⟩
theorem vu {l:List ad} {pb gp:Nat} {d t:ByteArray} {Av:Option Addr} {c b o:Nat} {css:Nat->List Value} {out:List Tx} (ih:∀(i:Nat) (p:ad),l[i]? = some p->rx r G mb made Gv gc most cap p) (hnk:∀(i:Nat) (p:ad),l[i]? = some p->ay (nms G) p=true) (hGs:spotless Gv=true)
  (hfit:∀m∈made,Fit most cap m) (hcap1:1<=cap) (hcap:cap<=1000) (hmost:most<=1000) (hfo:Fit most cap out) (hoc:out.length<=cap)
  (hlb:l.length<=9223372036854775807) (hA:l≠[]->Av=some ⟨b,o,none⟩) (hat:∀(i:Nat) (p:ad),l[i]? = some p->fS r b (o+i*3) (css i)) (hk:∀(i:Nat) (p:ad),l[i]? = some p->RoPart r p (css i))
  {a:Ev.A} {h2:Hp} {w:Value} {Q:Ex->Ev.A->Hp->Prop} (hn:a.n=184) (hrom2:h2.rom=r) (hb2:h2.base<=h2.next) (hMd2:MadeAt h2 mb made) (hw:LLV h2 w out)
  (hP:h2.own pb 48 [.string d,.string t,.slice Av l.length c]) (hG1:h2.own gp 24 [.slice Gv G.length gc])
  (g1:a.get 1=.slice (some ⟨mb,0,none⟩) G.length G.length) (g3:a.get 3=.int .i64 (most:Int)) (g4:a.get 4=.int .i64 (cap:Int)) (g5:a.get 5=.pointer (some ⟨gp,0,none⟩)) (g7:a.get 7=.pointer (some ⟨pb,0,none⟩)) (g16:a.get 16=w) (g17:a.get 17=.int .i64 0)
  (hq0:∀(a1:Ev.A) (h1:Hp) (w1:Value) (O:List Tx),a1.n=184->Ext h2 h1->orP (nms G) made most cap l out=(O,true)->LLV h1 w1 O->a1.get 16=w1->Q (.exit 3) a1 h1)
  (hq1:∀(a1:Ev.A) (h1:Hp),a1.n=184->Ext h2 h1->orP (nms G) made most cap l out=([],false)->a1.get 10=.slice none 0 0->a1.get 11=.bool false->Q .ret a1 h1) :
  Th Tryz.prog (aw Tryz.f21 [1,0,1,0,1,1,1,1,1,1,1,0,1,1,0,1,0]) a h2 Q ⟨⟩ ⟨⟩:=by
 obtain ⟨X,hX⟩:∃X,orP (nms G) made most cap l out=X:=⟨_,rfl⟩
 rw[hX] at hq0 hq1
 simp only[aw,nav,Tryz.f21]
 refine au (n:=184) (by kernel_rfl) (fun m' a' h'=>∃(i:Nat) (u:List Tx) (w1:Value),i<=l.length/\m'=l.length - i/\Ext h2 h'/\LLV h' w1 u/\Fit most cap u/\u.length<=cap/\X=orP (nms G) made most cap (l.drop i) u /\
  a'.get 1=.slice (some ⟨mb,0,none⟩) G.length G.length/\a'.get 3=.int .i64 (most:Int)/\a'.get 4=.int .i64 (cap:Int)/\a'.get 5=.pointer (some ⟨gp,0,none⟩)/\a'.get 7=.pointer (some ⟨pb,0,none⟩)/\a'.get 16=w1/\a'.get 17=.int .i64 (i:Int)) ?_ l.length _ _ hn
  ⟨0,out,w,lZr _,rfl,Ext.refl _,hw,hfo,hoc,hX.symm,g1,g3,g4,g5,g7,g16,g17⟩
 rintro m' a' h' hn' ⟨i,u,w1,hi,rfl,hx,hw1,hfu,huc,hst,e1,e3,e4,e5,e7,e16,e17⟩
 have hrom':h'.rom=r:=hx.rom.trans hrom2
 have hb':h'.base<=h'.next:=by rw[hx.base];exact lTr hb2 hx.next
 have hP':=aj hx hP
 have hG':=aj hx hG1
 by_cases hlt:i<l.length
 rotate_left
 ·have hi0:decide ((i:Int)<(l.length:Int))=false:=dcF (by omega)
  rw[List.drop_eq_nil_of_le (by omega),orP] at hst
  simp -dsimp only[go_sem,e7,e17,hi0,aa hP']
  exact hq0 _ _ w1 u (by simp -dsimp only[go_sem,hn']) hx hst hw1 (by simp -dsimp only[go_sem,e16])
 have hpi:l[i]? = some l[i]:=gEl hlt
 have hi1:decide ((i:Int)<(l.length:Int))=true:=dcT (Int.ofNat_lt.2 hlt)
 obtain ⟨Av1,c1',hcs⟩:=(hk i _ hpi).shape
 have hat':=hat i _ hpi
 have hkid:=hk i _ hpi
 rw[hcs] at hat' hkid
 have hAv:=hA (aO hlt)
 subst hAv
 rw[List.drop_eq_getElem_cons hlt,orP] at hst
 have hfx:Fit most cap (mkP (nms G) made most cap l[i]).1:=kP hfit hcap1 l[i]
 obtain ⟨_,h6,hs6,hx6,w6,rfl,hL6⟩:=ih i _ hpi h' _ hrom' hb' (hMd2.ext hx) hkid (hnk i _ hpi)
 have hb6:h6.base<=h6.next:=by rw[hx6.base];exact lTr hb' hx6.next
 have f1:=hfu.1
 have f2:=hfx.1
 have s6:=hL6.same 8
 have s7:=hL6.same 9
 generalize mkP (nms G) made most cap l[i]=J at hst hs6 hL6 hfx f2
 have f3:=ju J.1 u
 simp -dsimp only[go_sem,e1,e3,e4,e5,e7,e16,e17,hi1,aa hP']
 refine aD (n:=184) [[],[],[],[2],[],[2,3,4],[2,3,4,5],[],[],[0,1,2,3,4,5,6,7,8],[0,1,2,3,4,5,6,7,8,9],[0,1,2,3,4,5,6,7,8,9,10],[0,1,2,3,4,5,6,7,8,9,10],[0,1,2,3,4,5,6,7,8,9,10,11],[0,1,2,3,4,5,6,7,8,9,10,11,12,13]] (by simp -dsimp only[go_sem,hn']) (ao (by kernel_rfl)) ?_
 simp -dsimp only[go_sem,e1,e3,e4,e5,e7,e17,af hG',aa hP',af hP',eR hlt,az (n:=3) hrom' hat' rfl,ab hGs,ab hkid.same]
 refine ⟨_,h6,hs6,?_⟩
 simp -dsimp only[go_sem,s6,s7,e1,e3,e4,e5,e7,e16,e17]
 refine Bq (out:=u) (w:=w1) (x1:=.slice (some ⟨mb,0,none⟩) G.length G.length) (x3:=.int .i64 (most:Int)) (x4:=.int .i64 (cap:Int)) (x5:=.pointer (some ⟨gp,0,none⟩)) (x7:=.pointer (some ⟨pb,0,none⟩)) (x17:=.int .i64 (i:Int)) (x19:=.bool J.2) hL6 (by omega) (by omega) (fun z hz=>by have:=hfx.2 z hz;omega) (fun z hz=>by have:=hfu.2 z hz;omega) (by simp -dsimp only[go_sem,hn']) hb6 (LLV.ext hx6 hw1) (by simp -dsimp only[go_sem,e1]) (by simp -dsimp only[go_sem,e3]) (by simp -dsimp only[go_sem,e4]) (by simp -dsimp only[go_sem,e5]) (by simp -dsimp only[go_sem,e7]) (by simp -dsimp only[go_sem,e16]) (by simp -dsimp only[go_sem,e17]) (by simp -dsimp only[go_sem]) (by simp -dsimp only[go_sem]) (by simp -dsimp only[go_sem]) (fun a1 h3 w3 hn1 x3 hL3 q1 q3 q4 q5 q7 q16 q17 q19 => ?_)
 obtain ⟨A3,rfl,hA3,_⟩:=hL3.at'
 have hx3:=hx.trans (hx6.trans x3)
 cases hj:J.2 with
 | false =>
   rw[hj] at q19
   rw[if_neg (fun c=>by rw[hj] at c;exact absurd c.1 (by simp))] at hst
   simp -dsimp only[go_sem,q19,Bool.not_false]
   exact hq1 _ _ (by simp -dsimp only[go_sem,hn1]) hx3 hst (by simp -dsimp only[go_sem]) (by simp -dsimp only[go_sem])
 | true =>
   rw[hj] at q19
   by_cases cc:(J.1.foldl bp u).length<=cap
   ·have k5:decide ((cap:Int)<((J.1.foldl bp u).length:Int))=false:=dcF (by omega)
    rw[if_pos ⟨hj,cc⟩] at hst
    simp -dsimp only[go_sem,q1,q3,q4,q5,q7,q16,q17,q19,Bool.not_true,k5,ah hlt hlb]
    exact ⟨l.length - (i+1),by omega,i+1,J.1.foldl bp u,_,hlt,rfl,hx3,hL3,⟨by omega,fun z hz=>(fJ _ _ z hz).elim (hfu.2 z) (hfx.2 z)⟩,cc,hst,rfl,rfl⟩
   ·have k5:decide ((cap:Int)<((J.1.foldl bp u).length:Int))=true:=dcT (by omega)
    rw[if_neg (fun c=>cc c.2)] at hst
    simp -dsimp only[go_sem,q4,q16,q19,Bool.not_true,k5]
    exact hq1 _ _ (by simp -dsimp only[go_sem,hn1]) hx3 hst (by simp -dsimp only[go_sem]) (by simp -dsimp only[go_sem])
theorem yY {l:List ad} {pb gp:Nat} {d t:ByteArray} {Av:Option Addr} {c b o:Nat} {css:Nat->List Value} {out:List Tx} (ih:∀(i:Nat) (p:ad),l[i]? = some p->rx r G mb made Gv gc most cap p) (hnk:∀(i:Nat) (p:ad),l[i]? = some p->ay (nms G) p=true) (hGs:spotless Gv=true)
  (hfit:∀m∈made,Fit most cap m) (hcap1:1<=cap) (hcap:cap<=1000) (hmost:most<=1000) (hfo:Fit most cap out)
  (hlb:l.length<=9223372036854775807) (hA:l≠[]->Av=some ⟨b,o,none⟩) (hat:∀(i:Nat) (p:ad),l[i]? = some p->fS r b (o+i*3) (css i)) (hk:∀(i:Nat) (p:ad),l[i]? = some p->RoPart r p (css i))
  {a:Ev.A} {h2:Hp} {w:Value} {Q:Ex->Ev.A->Hp->Prop} (hn:a.n=184) (hrom2:h2.rom=r) (hb2:h2.base<=h2.next) (hMd2:MadeAt h2 mb made) (hw:LLV h2 w out)
  (hP:h2.own pb 48 [.string d,.string t,.slice Av l.length c]) (hG1:h2.own gp 24 [.slice Gv G.length gc])
  (g1:a.get 1=.slice (some ⟨mb,0,none⟩) G.length G.length) (g3:a.get 3=.int .i64 (most:Int)) (g4:a.get 4=.int .i64 (cap:Int)) (g5:a.get 5=.pointer (some ⟨gp,0,none⟩)) (g7:a.get 7=.pointer (some ⟨pb,0,none⟩)) (g12:a.get 12=w) (g13:a.get 13=.int .i64 0)
  (hq0:∀(a1:Ev.A) (h1:Hp) (w1:Value) (O:List Tx),a1.n=184->Ext h2 h1->iU (nms G) made most cap l out=(O,true)->LLV h1 w1 O->a1.get 12=w1->Q (.exit 1) a1 h1)
  (hq1:∀(a1:Ev.A) (h1:Hp),a1.n=184->Ext h2 h1->iU (nms G) made most cap l out=([],false)->a1.get 10=.slice none 0 0->a1.get 11=.bool false->Q .ret a1 h1) :
  Th Tryz.prog (aw Tryz.f21 [1,0,1,0,1,1,1,1,1,0,1,0,1,0]) a h2 Q ⟨⟩ ⟨⟩:=by
 obtain ⟨X,hX⟩:∃X,iU (nms G) made most cap l out=X:=⟨_,rfl⟩
 rw[hX] at hq0 hq1
 simp only[aw,nav,Tryz.f21]
 refine au (n:=184) (by kernel_rfl) (fun m' a' h'=>∃(i:Nat) (u:List Tx) (w1:Value),i<=l.length/\m'=l.length - i/\Ext h2 h'/\LLV h' w1 u/\Fit most cap u/\X=iU (nms G) made most cap (l.drop i) u /\
  a'.get 1=.slice (some ⟨mb,0,none⟩) G.length G.length/\a'.get 3=.int .i64 (most:Int)/\a'.get 4=.int .i64 (cap:Int)/\a'.get 5=.pointer (some ⟨gp,0,none⟩)/\a'.get 7=.pointer (some ⟨pb,0,none⟩)/\a'.get 12=w1/\a'.get 13=.int .i64 (i:Int)) ?_ l.length _ _ hn
  ⟨0,out,w,lZr _,rfl,Ext.refl _,hw,hfo,hX.symm,g1,g3,g4,g5,g7,g12,g13⟩
 rintro m' a' h' hn' ⟨i,u,w1,hi,rfl,hx,hw1,hfu,hst,e1,e3,e4,e5,e7,e12,e13⟩
 have hrom':h'.rom=r:=hx.rom.trans hrom2
 have hb':h'.base<=h'.next:=by rw[hx.base];exact lTr hb2 hx.next
 have hP':=aj hx hP
 have hG':=aj hx hG1
 by_cases hlt:i<l.length
 rotate_left
 ·have hi0:decide ((i:Int)<(l.length:Int))=false:=dcF (by omega)
  rw[List.drop_eq_nil_of_le (by omega),iU] at hst
  simp -dsimp only[go_sem,e7,e13,hi0,aa hP']
  exact hq0 _ _ w1 u (by simp -dsimp only[go_sem,hn']) hx hst hw1 (by simp -dsimp only[go_sem,e12])
 have hpi:l[i]? = some l[i]:=gEl hlt
 have hi1:decide ((i:Int)<(l.length:Int))=true:=dcT (Int.ofNat_lt.2 hlt)
 obtain ⟨Av1,c1',hcs⟩:=(hk i _ hpi).shape
 have hat':=hat i _ hpi
 have hkid:=hk i _ hpi
 rw[hcs] at hat' hkid
 have hAv:=hA (aO hlt)
 subst hAv
 rw[List.drop_eq_getElem_cons hlt,iU] at hst
 have hfx:Fit most cap (mkP (nms G) made most cap l[i]).1:=kP hfit hcap1 l[i]
 obtain ⟨_,h6,hs6,hx6,w6,rfl,hL6⟩:=ih i _ hpi h' _ hrom' hb' (hMd2.ext hx) hkid (hnk i _ hpi)
 have hb6:h6.base<=h6.next:=by rw[hx6.base];exact lTr hb' hx6.next
 have f1:=hfu.1
 have f2:=hfx.1
 have s6:=hL6.same 8
 have s7:=hL6.same 9
 obtain ⟨w7,h7,hs7,hx7,hL7,hJ7⟩:=sE (most:=most) (cap:=cap) (LLV.ext hx6 hw1) hL6 hb6 (by omega) (by omega) (fun z hz=>by have:=hfu.2 z hz;omega) (fun z hz=>by have:=hfx.2 z hz;omega) hcap hmost (mkP (nms G) made most cap l[i]).2
 generalize aS most cap (mkP (nms G) made most cap l[i]).1 u ([],(mkP (nms G) made most cap l[i]).2)=J at hst hs7 hL7 hJ7
 generalize mkP (nms G) made most cap l[i]=K at hs6 hL6 hfx f2 hs7
 have f3:=hJ7.len
 simp -dsimp only[go_sem,e1,e3,e4,e5,e7,e12,e13,hi1,aa hP']
 refine aD (n:=184) [[],[],[],[2],[],[2,3,4],[2,3,4,5],[],[],[0,1,2,3,4,5,6,7,8],[0,1,2,3,4,5,6,7,8,9],[0,1,2,3,4,5,6,7,8,9,10],[0,1,2,3,4,5,6,7,8,9,10],[0,1,2,3,4,5,6,7,8,9,10,11],[0,1,2,3,4,5,6,7,8,9,10,11,12,13]] (by simp -dsimp only[go_sem,hn']) (ao (by kernel_rfl)) ?_
 simp -dsimp only[go_sem,e1,e3,e4,e5,e7,e13,af hG',aa hP',af hP',eR hlt,az (n:=3) hrom' hat' rfl,ab hGs,ab hkid.same]
 refine ⟨_,h6,hs6,?_⟩
 simp -dsimp only[go_sem,s6,s7,e1,e3,e4,e5,e7,e12,e13]
 refine ⟨_,h7,hs7,?_⟩
 have hx8:=hx.trans (hx6.trans hx7)
 cases hj:J.2 with
 | false =>
   rw[hj,if_neg (by simp)] at hst
   simp -dsimp only[go_sem,Bool.not_false]
   exact hq1 _ _ (by simp -dsimp only[go_sem,hn']) hx8 hst (by simp -dsimp only[go_sem]) (by simp -dsimp only[go_sem])
 | true =>
   rw[hj,if_pos rfl] at hst
   simp -dsimp only[go_sem,Bool.not_true,e1,e3,e4,e5,e7,e13,ah hlt hlb]
   exact ⟨l.length - (i+1),by omega,i+1,J.1,w7,hlt,rfl,hx8,hL7,⟨by omega,hJ7.mem⟩,hst,rfl,rfl⟩
end
section
variable {r:Ro} {G:List ar} {Gv:Option Addr} {gc mb most cap:Nat} {made:List (List Tx)}
theorem Br {gb go:Nat} {gcss:Nat->List Value} (R:bd r G Gv gc gb go gcss) (hfit:∀m∈made,Fit most cap m) (hml:made.length=G.length) (hcap1:1<=cap) (hcap:cap<=1000) (hmost:most<=1000):∀(n:Nat) (p:ad),SizeOf.sizeOf p<n->rx r G mb made Gv gc most cap p:=by
 have hGl:(nms G).length=G.length:=by simp[nms]
 intro n
 induction n with
 | zero=>exact fun p hp=>absurd hp (lNz _)
 | succ n ihn =>
 rintro ⟨d,t,l⟩ hn h cs hrom hb hMd hp hrp
 have ih:∀(i:Nat) (p:ad),l[i]? = some p->rx r G mb made Gv gc most cap p:=fun i p hp=>ihn p (by
  have:=List.sizeOf_lt_of_mem (mOg hp)
  simp only[ad.mk.sizeOf_spec] at hn
  omega)
 rw[ay,Bool.and_eq_true] at hrp
 obtain ⟨hrl,hko⟩:=hrp
 have hnk:∀(i:Nat) (p:ad),l[i]? = some p->ay (nms G) p=true:=ec hrl
 cases hp with
 | mk _ _ _ Av c b o css hc hlb hA hat hk hs =>
 refine aL wf Tryz.func21 rfl rfl (n:=184) rfl (by kernel_rfl) rfl ?_
 intro a hn hg
 have hr:Tryz.f21.results.toList=[.tmp 10,.tmp 11]:=rfl
 have g0:=hg 0
 have g1:=hg 1
 have g2:=hg 2
 have g3:=hg 3
 have g4:=hg 4
 clear hg
 simp only[gC0,gC1] at g0 g1 g2 g3 g4
 have hG:=an hb 24 [.slice Gv G.length gc]
 have hxg:=Ext.new h (ak.cells ⟨[.slice Gv G.length gc],24,0,0,false⟩)
 have hbg:=Nat.le_succ_of_le (m:=h.next) hb
 have hP:=an (h:=h.newH (ak.cells ⟨[.slice Gv G.length gc],24,0,0,false⟩)) hbg 48 [.string d,.string t,.slice Av l.length c]
 have hG1:=db hG (ak.cells ⟨[.string d,.string t,.slice Av l.length c],48,0,0,false⟩)
 have hx0:=hxg.trans (Ext.new _ (ak.cells ⟨[.string d,.string t,.slice Av l.length c],48,0,0,false⟩))
 simp -dsimp only[go_sem,g0,g1,g2,g3,g4,bu]
 simp only[bu] at hP
 generalize (h.newH (ak.cells ⟨[.slice Gv G.length gc],24,0,0,false⟩)).newH (ak.cells ⟨[.string d,.string t,.slice Av l.length c],48,0,0,false⟩)=h2 at hP hG1 hx0 ⊢
 have hb2:h2.base<=h2.next:=by rw[hx0.base];exact lTr hb hx0.next
 have hrom2:h2.rom=r:=hx0.rom.trans hrom
 have hMd2:=hMd.ext hx0
 simp -dsimp only[go_sem,aa hP]
 by_cases c1:d.data.toList=[105,115]
 ·have k1:decide (d.data.toList=[105,115])=true:=dcT c1
  by_cases cm:most<1
  ·have k2:decide ((most:Int)<1)=true:=dcT (by omega)
   have e:mkP (nms G) made most cap ⟨d,t,l⟩=([],true):=by unfold mkP;rw[if_pos c1,if_pos cm]
   simp -dsimp only[go_sem,g3,k1,k2,hr,e]
   exact ⟨hx0,_,rfl,LLV.nil⟩
  ·have k2:decide ((most:Int)<1)=false:=dcF (by omega)
   have e:mkP (nms G) made most cap ⟨d,t,l⟩=([[t]],true):=by unfold mkP;rw[if_pos c1,if_neg cm]
   have hw1:=an hb2 9 [.string t]
   have hb3:=Nat.le_succ_of_le hb2
   have hw2:=an (h:=h2.newH (ak.cells ⟨[.string t],9,0,0,false⟩)) hb3 34 [.slice (some ⟨h2.next,0,none⟩) 1 1]
   have hx3:=Ext.new h2 (ak.cells ⟨[.string t],9,0,0,false⟩)
   have hx4:=Ext.new (h2.newH (ak.cells ⟨[.string t],9,0,0,false⟩)) (ak.cells ⟨[.slice (some ⟨h2.next,0,none⟩) 1 1],34,0,0,false⟩)
   have hw1':=aj hx4 hw1
   simp -dsimp only[go_sem,g3,k1,k2,aa hP,xG 1 (by decide),oA 1 (by decide),aC,hr,e]
   exact ⟨hx0.trans (hx3.trans hx4),_,rfl,[.slice (some ⟨h2.next,0,none⟩) 1 1],yX hw2 rfl,TxVs.one (yX hw1' rfl)⟩
 have k1:decide (d.data.toList=[105,115])=false:=dcF c1
 by_cases c2:d.data.toList=[114,117,108,101]
 ·have k2:decide (d.data.toList=[114,117,108,101])=true:=dcT c2
  have hidx:ae (nms G) t<(nms G).length:=fN hko c2
  have hidG:ae (nms G) t<G.length:=by rw[<-hGl];exact hidx
  have hidm:ae (nms G) t<made.length:=by omega
  have hfi:fx t (nms G) 0=((ae (nms G) t:Nat):Int):=by rw[dZ,if_pos hidx,Nat.zero_add]
  have e:mkP (nms G) made most cap ⟨d,t,l⟩=(made[ae (nms G) t],true):=by
   unfold mkP
   rw[if_neg c1,if_pos c2,List.getD_eq_getElem?_getD,gEl hidm]
   rfl
  simp -dsimp only[go_sem,g1,k1,k2,aa hP,af hG1]
  obtain ⟨_,h5,hs5,rfl,hx5⟩:=jd R t h2 hrom2 hb2
  refine ⟨_,h5,hs5,?_⟩
  obtain ⟨vs,hrow,hLL⟩:=(hMd2.ext hx5).row
  obtain ⟨w,q1,q2⟩:=hLL.get _ _ (gEl hidm)
  have q3:h5.load ⟨mb,0+ae (nms G) t*1,none⟩=some w:=by rw[Nat.zero_add,Nat.mul_one,aa hrow,q1]
  simp -dsimp only[go_sem,g1,hfi,vp hidG,q3,aa hrow,q1,Nat.zero_add,Nat.mul_one,hr,e]
  exact ⟨hx0.trans hx5,w,rfl,q2⟩
 have k2:decide (d.data.toList=[114,117,108,101])=false:=dcF c2
 have hfo1:Fit most cap [[]]:=⟨by simp,fun z hz=>by rw[List.mem_singleton.1 hz];exact lZr _⟩
 have hNo:=an hb2 34 [.slice none 0 0]
 have hNx:=Ext.new h2 (ak.cells ⟨[.slice none 0 0],34,0,0,false⟩)
 have hNb:=Nat.le_succ_of_le (m:=h2.next) hb2
 have hNL:=LLV.oneNil hNo
 by_cases c3:d.data.toList=[115,101,113]
 ·have k3:decide (d.data.toList=[115,101,113])=true:=dcT c3
  have e:mkP (nms G) made most cap ⟨d,t,l⟩=iU (nms G) made most cap l [[]]:=by unfold mkP;rw[if_neg c1,if_neg c2,if_pos c3]
  simp -dsimp only[go_sem,k1,k2,k3,oA 1 (by decide),aC]
  refine yY (d:=d) (t:=t) (c:=c) (w:=.slice (some ⟨h2.next,0,none⟩) 1 1) (out:=[[]]) ih hnk R.hs hfit hcap1 hcap hmost hfo1 hlb hA hat hk (by simp -dsimp only[go_sem,hn]) (hNx.rom.trans hrom2) hNb (hMd2.ext hNx) hNL (aj hNx hP) (aj hNx hG1) (by simp -dsimp only[go_sem,g1]) (by simp -dsimp only[go_sem,g3]) (by simp -dsimp only[go_sem,g4]) (by simp -dsimp only[go_sem]) (by simp -dsimp only[go_sem]) (by simp -dsimp only[go_sem]) (by simp -dsimp only[go_sem]) (fun a1 h3 w3 O hn1 hx3 hO hL3 q12 => ?_) (fun a1 h3 hn1 hx3 hO q10 q11 => ?_)
  ·rw[e,hO]
   simp -dsimp only[go_sem,q12,hr]
   exact ⟨hx0.trans (hNx.trans hx3),w3,rfl,hL3⟩
  ·rw[e,hO]
   simp -dsimp only[go_sem,q10,q11,hr]
   exact ⟨hx0.trans (hNx.trans hx3),_,rfl,LLV.nil⟩
 have k3:decide (d.data.toList=[115,101,113])=false:=dcF c3
 by_cases c4:d.data.toList=[111,114]
 ·have k4:decide (d.data.toList=[111,114])=true:=dcT c4
  have k5:decide (d.data.toList=[111,112,116])=false:=dcF (by rw[c4];decide)
  have e:mkP (nms G) made most cap ⟨d,t,l⟩=orP (nms G) made most cap l []:=by unfold mkP;rw[if_neg c1,if_neg c2,if_neg c3,if_pos c4]
  simp -dsimp only[go_sem,k1,k2,k3,k4,k5,aa hP]
  refine vu (d:=d) (t:=t) (c:=c) (w:=.slice none 0 0) (out:=[]) ih hnk R.hs hfit hcap1 hcap hmost ⟨lZr _,fun z hz=>by cases hz⟩ (lZr _) hlb hA hat hk (by simp -dsimp only[go_sem,hn]) hrom2 hb2 hMd2 LLV.nil hP hG1 (by simp -dsimp only[go_sem,g1]) (by simp -dsimp only[go_sem,g3]) (by simp -dsimp only[go_sem,g4]) (by simp -dsimp only[go_sem]) (by simp -dsimp only[go_sem]) (by simp -dsimp only[go_sem]) (by simp -dsimp only[go_sem]) (fun a1 h3 w3 O hn1 hx3 hO hL3 q16 => ?_) (fun a1 h3 hn1 hx3 hO q10 q11 => ?_)
  ·rw[e,hO]
   simp -dsimp only[go_sem,q16,hr]
   exact ⟨hx0.trans hx3,w3,rfl,hL3⟩
  ·rw[e,hO]
   simp -dsimp only[go_sem,q10,q11,hr]
   exact ⟨hx0.trans hx3,_,rfl,LLV.nil⟩
 have k4:decide (d.data.toList=[111,114])=false:=dcF c4
 by_cases c5:d.data.toList=[111,112,116]
 ·have k5:decide (d.data.toList=[111,112,116])=true:=dcT c5
  have e:mkP (nms G) made most cap ⟨d,t,l⟩=orP (nms G) made most cap l [[]]:=by unfold mkP;rw[if_neg c1,if_neg c2,if_neg c3,if_neg c4,if_pos c5]
  simp -dsimp only[go_sem,k1,k2,k3,k4,k5,aa hP,oA 1 (by decide),aC]
  refine vu (d:=d) (t:=t) (c:=c) (w:=.slice (some ⟨h2.next,0,none⟩) 1 1) (out:=[[]]) ih hnk R.hs hfit hcap1 hcap hmost hfo1 (by simpa using hcap1) hlb hA hat hk (by simp -dsimp only[go_sem,hn]) (hNx.rom.trans hrom2) hNb (hMd2.ext hNx) hNL (aj hNx hP) (aj hNx hG1) (by simp -dsimp only[go_sem,g1]) (by simp -dsimp only[go_sem,g3]) (by simp -dsimp only[go_sem,g4]) (by simp -dsimp only[go_sem]) (by simp -dsimp only[go_sem]) (by simp -dsimp only[go_sem]) (by simp -dsimp only[go_sem]) (fun a1 h3 w3 O hn1 hx3 hO hL3 q16 => ?_) (fun a1 h3 hn1 hx3 hO q10 q11 => ?_)
  ·rw[e,hO]
   simp -dsimp only[go_sem,q16,hr]
   exact ⟨hx0.trans (hNx.trans hx3),w3,rfl,hL3⟩
  ·rw[e,hO]
   simp -dsimp only[go_sem,q10,q11,hr]
   exact ⟨hx0.trans (hNx.trans hx3),_,rfl,LLV.nil⟩
 have k5:decide (d.data.toList=[111,112,116])=false:=dcF c5
 by_cases c6:d.data.toList=[109,97,110,121]
 ·have k6:decide (d.data.toList=[109,97,110,121])=true:=dcT c6
  have hl1:l.length=1:=tB hko (.inl c6)
  have hlt:0<l.length:=by omega
  have hpi:l[0]? = some l[0]:=gEl hlt
  obtain ⟨Av1,c1',hcs⟩:=(hk 0 _ hpi).shape
  have hat':=hat 0 _ hpi
  have hkid:=hk 0 _ hpi
  rw[hcs] at hat' hkid
  have hAv:=hA (aO hlt)
  subst hAv
  have e:mkP (nms G) made most cap ⟨d,t,l⟩=fk most cap (mkP (nms G) made most cap l[0]).1 (cap+3) (-1) ([[]],(mkP (nms G) made most cap l[0]).2):=by
   rw[mkP,if_neg c1,if_neg c2,if_neg c3,if_neg c4,if_neg c5,if_pos c6]
   match l,hl1 with
   | [x],_=>rw[jP];rfl
  have hfx:Fit most cap (mkP (nms G) made most cap l[0]).1:=kP hfit hcap1 l[0]
  obtain ⟨_,h6,hs6,hx6,w6,rfl,hL6⟩:=ih 0 _ hpi h2 _ hrom2 hb2 hMd2 hkid (hnk 0 _ hpi)
  have hb6:h6.base<=h6.next:=by rw[hx6.base];exact lTr hb2 hx6.next
  have s6:=hL6.same 8
  have s7:=hL6.same 9
  have hix:=eR (b:=b) (o:=o) (n:=l.length) (c:=c) (i:=0) hlt
  rw[Int.natCast_zero,Nat.zero_mul,Nat.add_zero] at hix
  rw[Nat.zero_mul,Nat.add_zero] at hat'
  have hNo6:=an hb6 34 [.slice none 0 0]
  have hNx6:=Ext.new h6 (ak.cells ⟨[.slice none 0 0],34,0,0,false⟩)
  have hNb6:=Nat.le_succ_of_le (m:=h6.next) hb6
  have hNL6:=LLV.oneNil hNo6
  simp -dsimp only[go_sem,k1,k2,k3,k4,k5,k6]
  refine aD (n:=184) [[],[],[],[2],[2,3],[2,3,4],[],[],[0,1,2,3,4,5,6,7],[0,1,2,3,4,5,6,7,8],[0,1,2,3,4,5,6,7,8,9],[0,1,2,3,4,5,6,7,8,9],[0,1,2,3,4,5,6,7,8,9,10],[0,1,2,3,4,5,6,7,8,9,10,11,12]] (by simp -dsimp only[go_sem,hn]) (ao (by kernel_rfl)) ?_
  simp -dsimp only[go_sem,g1,g3,g4,af hG1,aa hP,af hP,hix,az (n:=3) hrom2 hat' rfl,ab R.hs,ab hkid.same]
  refine ⟨_,h6,hs6,?_⟩
  simp -dsimp only[go_sem,s6,s7,g1,g3,g4,oA 1 (by decide),aC]
  refine xe (w:=.slice (some ⟨h6.next,0,none⟩) 1 1) (out:=[[]]) (ok:=(mkP (nms G) made most cap l[0]).2) (x1:=.slice (some ⟨mb,0,none⟩) G.length G.length) (x5:=.pointer (some ⟨h.next,0,none⟩)) (x7:=.pointer (some ⟨h.next+1,0,none⟩)) (LLV.ext hNx6 hL6) hfx hcap hmost hfo1 (fun _=>by simpa using hcap1) (by simp -dsimp only[go_sem,hn]) hNb6 hNL6 (by simp -dsimp only[go_sem,g1]) (by simp -dsimp only[go_sem,g3]) (by simp -dsimp only[go_sem,g4]) (by simp -dsimp only[go_sem]) (by simp -dsimp only[go_sem]) (by simp -dsimp only[go_sem]) (by simp -dsimp only[go_sem]) (by simp -dsimp only[go_sem]) (by simp -dsimp only[go_sem]) (fun a1 h7 w7 hn1 hx7 hL7 q22 q23 => ?_)
  rw[e]
  simp -dsimp only[go_sem,q22,q23,hr]
  exact ⟨hx0.trans (hx6.trans (hNx6.trans hx7)),w7,rfl,hL7⟩
 have k6:decide (d.data.toList=[109,97,110,121])=false:=dcF c6
 have e:mkP (nms G) made most cap ⟨d,t,l⟩=([[]],true):=by unfold mkP;rw[if_neg c1,if_neg c2,if_neg c3,if_neg c4,if_neg c5,if_neg c6]
 rw[e]
 simp -dsimp only[go_sem,k1,k2,k3,k4,k5,k6,oA 1 (by decide),aC,hr]
 exact ⟨hx0.trans hNx,_,rfl,hNL⟩
end
section
inductive iV
 | part (p:ad)
 | kids (l:List ad)
def fB (G:List ar) (rc:iV->List Bool->Option (Bool×List Bool)):iV->List Bool->Option (Bool×List Bool)
 | .part ⟨d,t,l⟩,s =>
   if d.data.toList=[97,110,121]\/d.data.toList=[110,111,116] then some (false,s)
   else if d.data.toList=[114,117,108,101] then
    (if s.getD (ae (nms G) t) false=true then some (true,s) else rc (.part (eS G t)) (s.set (ae (nms G) t) true))
   else rc (.kids l) s
 | .kids [],s=>some (true,s)
 | .kids (x::l),s=>(rc (.part x) s).bind fun r=>if r.1=true then rc (.kids l) r.2 else some r
def kQ (G:List ar):Nat->iV->List Bool->Option (Bool×List Bool)
 | 0,_,_=>none
 | k+1,t,s=>fB G (kQ G k) t s
variable {G:List ar}
theorem yZ {rc rc':iV->List Bool->Option (Bool×List Bool)} (h:∀t s o,rc t s=some o->rc' t s=some o):∀t s o,fB G rc t s=some o->fB G rc' t s=some o:=by
 intro t s o k
 match t with
 | .part ⟨d,t,l⟩ =>
   unfold fB at k ⊢
   simp only[] at k ⊢
   split at k
   ·rename_i c;rw[if_pos c];exact k
   ·rename_i c
    rw[if_neg c]
    split at k
    ·rename_i c2
     rw[if_pos c2]
     split at k
     ·rename_i c3;rw[if_pos c3];exact k
     ·rename_i c3;rw[if_neg c3];exact h _ _ _ k
    ·rename_i c2;rw[if_neg c2];exact h _ _ _ k
 | .kids []=>exact k
 | .kids (x::l) =>
   change (rc (.part x) s).bind _=some o at k
   show (rc' (.part x) s).bind _=some o
   rw[Option.bind_eq_some_iff] at k ⊢
   obtain ⟨s1,h1,h2⟩:=k
   refine ⟨s1,h _ _ _ h1,?_⟩
   split at h2
   ·rename_i c;rw[if_pos c];exact h _ _ _ h2
   ·rename_i c;rw[if_neg c];exact h2
theorem pT:∀(k:Nat) t s o,kQ G k t s=some o->kQ G (k+1) t s=some o
 | 0,t,s,o,h=>by cases h
 | k+1,t,s,o,h=>yZ (pT k) t s o h
theorem mY {k k':Nat} (h:k<=k') {t:iV} {s:List Bool} {o:Bool×List Bool} (e:kQ G k t s=some o):kQ G k' t s=some o:=by
 induction h with
 | refl=>exact e
 | step _ ih=>exact pT _ t s o ih
def RunsQ (G:List ar) (t:iV) (s:List Bool) (o:Bool×List Bool):Prop:=∃k,kQ G k t s=some o
theorem RunsQ.det {t:iV} {s:List Bool} {o o':Bool×List Bool} (h:RunsQ G t s o) (h':RunsQ G t s o'):o=o':=by
 obtain ⟨k,h⟩:=h
 obtain ⟨k',h'⟩:=h'
 have h1:=mY (Nat.le_max_left k k') h
 have h2:=mY (Nat.le_max_right k k') h'
 rw[h1] at h2
 injection h2
section
variable {d t:ByteArray} {l:List ad} {s:List Bool} {o:Bool×List Bool}
theorem oD (h:d.data.toList=[97,110,121]\/d.data.toList=[110,111,116]):RunsQ G (.part ⟨d,t,l⟩) s (false,s):=⟨1,by show fB _ _ _ _=_;unfold fB;simp only[];rw[if_pos h]⟩
theorem ry (c:¬(d.data.toList=[97,110,121]\/d.data.toList=[110,111,116])) (h:d.data.toList=[114,117,108,101]) (hs:s.getD (ae (nms G) t) false=true):RunsQ G (.part ⟨d,t,l⟩) s (true,s):=⟨1,by show fB _ _ _ _=_;unfold fB;simp only[];rw[if_neg c,if_pos h,if_pos hs]⟩
theorem mZ (c:¬(d.data.toList=[97,110,121]\/d.data.toList=[110,111,116])) (h:d.data.toList=[114,117,108,101]) (hs:s.getD (ae (nms G) t) false=false) (k:RunsQ G (.part (eS G t)) (s.set (ae (nms G) t) true) o):RunsQ G (.part ⟨d,t,l⟩) s o:=by
 obtain ⟨n,k⟩:=k
 exact ⟨n+1,by show fB _ _ _ _=_;unfold fB;simp only[];rw[if_neg c,if_pos h,if_neg (by rw[hs];simp)];exact k⟩
theorem kR (c:¬(d.data.toList=[97,110,121]\/d.data.toList=[110,111,116])) (c3:¬d.data.toList=[114,117,108,101]) (k:RunsQ G (.kids l) s o):RunsQ G (.part ⟨d,t,l⟩) s o:=by
 obtain ⟨n,k⟩:=k
 exact ⟨n+1,by show fB _ _ _ _=_;unfold fB;simp only[];rw[if_neg c,if_neg c3];exact k⟩
theorem j9:RunsQ G (.kids []) s (true,s):=⟨1,rfl⟩
theorem rz {x:ad} {s1:List Bool} (k:RunsQ G (.part x) s (false,s1)):RunsQ G (.kids (x::l)) s (false,s1):=by
 obtain ⟨n,k⟩:=k
 exact ⟨n+1,by show (kQ G n (.part x) s).bind _=_;rw[k];rfl⟩
theorem rA {x:ad} {s1:List Bool} (k:RunsQ G (.part x) s (true,s1)) (k2:RunsQ G (.kids l) s1 o):RunsQ G (.kids (x::l)) s o:=by
 obtain ⟨n,k⟩:=k
 obtain ⟨n2,k2⟩:=k2
 exact ⟨max n n2+1,by show (kQ G (max n n2) (.part x) s).bind _=_;rw[mY (Nat.le_max_left n n2) k,Option.bind_some,if_pos rfl];exact mY (Nat.le_max_right n n2) k2⟩
end
variable {r:Ro} {Gv:Option Addr} {gc tb:Nat}
def uA (r:Ro) (G:List ar) (tb:Nat) (Gv:Option Addr) (gc bound:Nat) (p:ad):Prop:=∀(h:Hp) (cs:List Value) (s:List Bool),h.rom=r->h.base<=h.next->RoPart r p cs->ay (nms G) p=true ->
 h.own tb 4 (s.map .bool)->s.length=G.length->cf s<=bound ->
 ∃v h1,Snd Tryz.prog 20 [.agg #[.slice Gv G.length gc],.agg cs.toArray,.slice (some ⟨tb,0,none⟩) G.length G.length] h v h1/\ExtS (aR tb) h h1/\∃o:Bool×List Bool,RunsQ G (.part p) s o/\v=.bool o.1/\h1.own tb 4 (o.2.map .bool)/\o.2.length=G.length/\cf o.2<=cf s
theorem kd {bound:Nat} {l:List ad} {pb gp:Nat} {d t:ByteArray} {Av:Option Addr} {c b o:Nat} {css:Nat->List Value} (ih:∀(i:Nat) (p:ad),l[i]? = some p->uA r G tb Gv gc bound p) (hnk:∀(i:Nat) (p:ad),l[i]? = some p->ay (nms G) p=true) (hGs:spotless Gv=true)
  (hlb:l.length<=9223372036854775807) (hA:l≠[]->Av=some ⟨b,o,none⟩) (hat:∀(i:Nat) (p:ad),l[i]? = some p->fS r b (o+i*3) (css i)) (hk:∀(i:Nat) (p:ad),l[i]? = some p->RoPart r p (css i))
  {a:Ev.A} {h2:Hp} {Q:Ex->Ev.A->Hp->Prop} (hn:a.n=60) (hrom2:h2.rom=r) (hb2:h2.base<=h2.next) {s:List Bool} (hS:h2.own tb 4 (s.map .bool)) (hsl:s.length=G.length) (hbd:cf s<=bound) (hpt:gp≠tb) (hpt1:pb≠tb)
  (hP:h2.own pb 48 [.string d,.string t,.slice Av l.length c]) (hG1:h2.own gp 24 [.slice Gv G.length gc])
  (g2:a.get 2=.slice (some ⟨tb,0,none⟩) G.length G.length) (g3:a.get 3=.pointer (some ⟨gp,0,none⟩)) (g4:a.get 4=.pointer (some ⟨pb,0,none⟩)) (g8:a.get 8=.int .i64 0)
  (hq0:∀(a1:Ev.A) (h1:Hp) (s1:List Bool),a1.n=60->ExtS (aR tb) h2 h1->RunsQ G (.kids l) s (true,s1)->h1.own tb 4 (s1.map .bool)->s1.length=G.length->cf s1<=cf s->Q (.exit 0) a1 h1)
  (hq1:∀(a1:Ev.A) (h1:Hp) (s1:List Bool),a1.n=60->ExtS (aR tb) h2 h1->RunsQ G (.kids l) s (false,s1)->h1.own tb 4 (s1.map .bool)->s1.length=G.length->cf s1<=cf s->a1.get 6=.bool false->Q .ret a1 h1) :
  Th Tryz.prog (aw Tryz.f20 [1,1,1,0,1,0]) a h2 Q ⟨⟩ ⟨⟩:=by
 simp only[aw,nav,Tryz.f20]
 refine au (n:=60) (by kernel_rfl) (fun m' a' h'=>∃(i:Nat) (s1:List Bool),i<=l.length/\m'=l.length - i/\ExtS (aR tb) h2 h'/\h'.own tb 4 (s1.map .bool)/\s1.length=G.length/\cf s1<=cf s/\(∀o,RunsQ G (.kids (l.drop i)) s1 o->RunsQ G (.kids l) s o) /\
  a'.get 2=.slice (some ⟨tb,0,none⟩) G.length G.length/\a'.get 3=.pointer (some ⟨gp,0,none⟩)/\a'.get 4=.pointer (some ⟨pb,0,none⟩)/\a'.get 8=.int .i64 (i:Int)) ?_ l.length _ _ hn
  ⟨0,s,lZr _,rfl,(Ext.refl _).toS,hS,hsl,lRf _,fun o k=>by rw[List.drop_zero] at k;exact k,g2,g3,g4,g8⟩
 rintro m' a' h' hn' ⟨i,s1,hi,rfl,hx,hS1,hl1,hc1,hst,e2,e3,e4,e8⟩
 have hrom':h'.rom=r:=bG hx hrom2
 have hb':h'.base<=h'.next:=de hx hb2
 have hP':=aJ hx hP hpt1
 have hG':=aJ hx hG1 hpt
 by_cases hlt:i<l.length
 rotate_left
 ·have hi0:decide ((i:Int)<(l.length:Int))=false:=dcF (by omega)
  rw[List.drop_eq_nil_of_le (by omega)] at hst
  simp -dsimp only[go_sem,e4,e8,hi0,aa hP']
  exact hq0 _ _ s1 (by simp -dsimp only[go_sem,hn']) hx (hst _ j9) hS1 hl1 hc1
 have hpi:l[i]? = some l[i]:=gEl hlt
 have hi1:decide ((i:Int)<(l.length:Int))=true:=dcT (Int.ofNat_lt.2 hlt)
 obtain ⟨Av1,c1',hcs⟩:=(hk i _ hpi).shape
 have hat':=hat i _ hpi
 have hkid:=hk i _ hpi
 rw[hcs] at hat' hkid
 have hAv:=hA (aO hlt)
 subst hAv
 rw[List.drop_eq_getElem_cons hlt] at hst
 obtain ⟨_,h6,hs6,hx6,⟨ob,s2⟩,hR6,rfl,hS6,hl6,hc6⟩:=ih i _ hpi h' _ s1 hrom' hb' hkid (hnk i _ hpi) hS1 hl1 (lTr hc1 hbd)
 simp -dsimp only[go_sem,e2,e3,e4,e8,hi1,aa hP']
 refine aD (n:=60) [[],[],[1],[],[1,2,3],[1,2,3,4],[],[0,1,2,3,4,5,6],[0,1,2,3,4,5,6,7]] (by simp -dsimp only[go_sem,hn']) (ao (by kernel_rfl)) ?_
 simp -dsimp only[go_sem,e2,e3,e4,e8,af hG',aa hP',af hP',eR hlt,az (n:=3) hrom' hat' rfl,ab hGs,ab hkid.same]
 refine ⟨_,h6,hs6,?_⟩
 have hx7:=hx.trans hx6
 cases ob with
 | false =>
   simp -dsimp only[go_sem,Bool.not_false]
   exact hq1 _ _ s2 (by simp -dsimp only[go_sem,hn']) hx7 (hst _ (rz hR6)) hS6 hl6 (lTr hc6 hc1) (by simp -dsimp only[go_sem])
 | true =>
   simp -dsimp only[go_sem,Bool.not_true,e2,e3,e4,e8,ah hlt hlb]
   exact ⟨l.length - (i+1),by omega,i+1,s2,hlt,rfl,hx7,hS6,hl6,lTr hc6 hc1,fun o k=>hst _ (rA hR6 k),rfl⟩
end
section
variable {r:Ro} {G:List ar} {Gv:Option Addr} {gc tb:Nat}
theorem gN {s:List Bool} {i:Nat} (h:s.getD i false=false) (hi:i<s.length):cf (s.set i true)<cf s:=rJ (by
 rw[List.getD_eq_getElem?_getD,gEl hi] at h
 rw[gEl hi]
 exact congrArg some h)
theorem oE {gb go:Nat} {gcss:Nat->List Value} (R:bd r G Gv gc gb go gcss) (hnG:∀(i:Nat) (x:ar),G[i]? = some x->ay (nms G) x.body=true):∀(bound n:Nat) (p:ad),SizeOf.sizeOf p<n->uA r G tb Gv gc bound p:=by
 have hGl:(nms G).length=G.length:=by simp[nms]
 intro bound
 induction bound using Nat.strongRecOn with
 | _ bound ihB =>
 intro n
 induction n with
 | zero=>exact fun p hp=>absurd hp (lNz _)
 | succ n ihn =>
 rintro ⟨d,t,l⟩ hn h cs s hrom hb hp hrp hS hsl hbd
 have ih:∀(i:Nat) (p:ad),l[i]? = some p->uA r G tb Gv gc bound p:=fun i p hp=>ihn p (by
  have:=List.sizeOf_lt_of_mem (mOg hp)
  simp only[ad.mk.sizeOf_spec] at hn
  omega)
 rw[ay,Bool.and_eq_true] at hrp
 obtain ⟨hrl,hko⟩:=hrp
 have hnk:∀(i:Nat) (p:ad),l[i]? = some p->ay (nms G) p=true:=ec hrl
 cases hp with
 | mk _ _ _ Av c b o css hc hlb hA hat hk hs =>
 refine aL wf Tryz.func20 rfl rfl (n:=60) rfl (by kernel_rfl) rfl ?_
 intro a hn hg
 have hr:Tryz.f20.results.toList=[.tmp 6]:=rfl
 have g0:=hg 0
 have g1:=hg 1
 have g2:=hg 2
 clear hg
 simp only[gC0,gC1] at g0 g1 g2
 have hG:=an hb 24 [.slice Gv G.length gc]
 have hxg:=Ext.new h (ak.cells ⟨[.slice Gv G.length gc],24,0,0,false⟩)
 have hbg:=Nat.le_succ_of_le (m:=h.next) hb
 have hP:=an (h:=h.newH (ak.cells ⟨[.slice Gv G.length gc],24,0,0,false⟩)) hbg 48 [.string d,.string t,.slice Av l.length c]
 have hG1:=db hG (ak.cells ⟨[.string d,.string t,.slice Av l.length c],48,0,0,false⟩)
 have hx0:=hxg.trans (Ext.new _ (ak.cells ⟨[.string d,.string t,.slice Av l.length c],48,0,0,false⟩))
 simp -dsimp only[go_sem,g0,g1,g2,bu]
 simp only[bu] at hP
 generalize (h.newH (ak.cells ⟨[.slice Gv G.length gc],24,0,0,false⟩)).newH (ak.cells ⟨[.string d,.string t,.slice Av l.length c],48,0,0,false⟩)=h2 at hP hG1 hx0 ⊢
 have hb2:h2.base<=h2.next:=by rw[hx0.base];exact lTr hb hx0.next
 have hrom2:h2.rom=r:=hx0.rom.trans hrom
 have hS2:=aj hx0 hS
 have htn:tb<h.next:=hS.2.1
 have hpt:h.next≠tb:=by omega
 have hpt1:h.next+1≠tb:=by omega
 have hxS:ExtS (aR tb) h h2:=hx0.toS
 simp -dsimp only[go_sem,aa hP]
 by_cases c1:d.data.toList=[97,110,121]
 ·have k1:decide (d.data.toList=[97,110,121])=true:=dcT c1
  simp -dsimp only[go_sem,k1,hr]
  exact ⟨hxS,(false,s),oD (.inl c1),rfl,hS2,hsl,lRf _⟩
 have k1:decide (d.data.toList=[97,110,121])=false:=dcF c1
 by_cases c2:d.data.toList=[110,111,116]
 ·have k2:decide (d.data.toList=[110,111,116])=true:=dcT c2
  simp -dsimp only[go_sem,aa hP,k1,k2,hr]
  exact ⟨hxS,(false,s),oD (.inr c2),rfl,hS2,hsl,lRf _⟩
 have k2:decide (d.data.toList=[110,111,116])=false:=dcF c2
 have cb:¬(d.data.toList=[97,110,121]\/d.data.toList=[110,111,116]):=fun c=>c.elim c1 c2
 simp -dsimp only[go_sem,aa hP,af hG1,k1,k2]
 obtain ⟨_,h5,hs5,rfl,hx5⟩:=jd R t h2 hrom2 hb2
 refine ⟨_,h5,hs5,?_⟩
 have hx05:=hx0.trans hx5
 have hP5:=aj hx5 hP
 have hG5:=aj hx5 hG1
 have hS5:=aj hx5 hS2
 have hb5:h5.base<=h5.next:=by rw[hx5.base];exact lTr hb2 hx5.next
 have hrom5:h5.rom=r:=hx5.rom.trans hrom2
 by_cases c3:d.data.toList=[114,117,108,101]
 ·have k3:decide (d.data.toList=[114,117,108,101])=true:=dcT c3
  have hl0:l=[]:=List.length_eq_zero_iff.1 (ph hko c3)
  have hidx:ae (nms G) t<(nms G).length:=fN hko c3
  have hidG:ae (nms G) t<G.length:=by rw[<-hGl];exact hidx
  have hids:ae (nms G) t<s.length:=by rw[hsl];exact hidG
  have hfi:fx t (nms G) 0=((ae (nms G) t:Nat):Int):=by rw[dZ,if_pos hidx,Nat.zero_add]
  have hget:(s.map Value.bool)[ae (nms G) t]? = some (.bool (s.getD (ae (nms G) t) false)):=by
   simp only[List.getElem?_map,List.getD_eq_getElem?_getD,gEl hids,Option.map_some,Option.getD_some]
  cases hsn:s.getD (ae (nms G) t) false with
  | true =>
    rw[hsn] at hget
    simp -dsimp only[go_sem,aa hP5,k3,g2,hfi,bM hidG,aa hS5,hget,Bool.not_true]
    refine kd (d:=d) (t:=t) (c:=c) (l:=l) ih hnk R.hs hlb hA hat hk (by simp -dsimp only[go_sem,hn]) hrom5 hb5 hS5 hsl hbd hpt hpt1 hP5 hG5 (by simp -dsimp only[go_sem,g2]) (by simp -dsimp only[go_sem]) (by simp -dsimp only[go_sem]) (by simp -dsimp only[go_sem]) (fun a1 h1 s1 hn1 hx1 hR1 hS1 hl1 hc1 => ?_) (fun a1 h1 s1 hn1 hx1 hR1 hS1 hl1 hc1 q6 => ?_)
    ·simp -dsimp only[go_sem,hr]
     subst hl0
     have:=hR1.det j9
     injection this with _ this
     subst this
     exact ⟨hx05.toS.trans hx1,(true,s1),ry cb c3 hsn,rfl,hS1,hl1,hc1⟩
    ·subst hl0
     have:=hR1.det j9
     injection this with this
     cases this
  | false =>
    rw[hsn] at hget
    have hlt:=gN hsn hids
    have hsto:=aE hS5 (o:=ae (nms G) t) (vs:=[.bool true]) rfl (dP hids) (by simp)
    have hx2:=(hx05.toS (S:=aR tb)).put (b:=tb) (.inr rfl) (.cells ⟨(s.set (ae (nms G) t) true).map .bool,4,0,0,false⟩)
    have hxp:=(Ext.refl h5).toS.put (S:=aR tb) (b:=tb) (.inr rfl) (.cells ⟨(s.set (ae (nms G) t) true).map .bool,4,0,0,false⟩)
    have hpi:G[ae (nms G) t]? = some G[ae (nms G) t]:=gEl hidG
    obtain ⟨Av1,c1',hcs⟩:=(R.hk _ _ hpi).shape
    have hat':=R.hat _ _ hpi
    have hkid:=R.hk _ _ hpi
    rw[hcs] at hat' hkid
    have hat2:=dY hat'
    have hAv:=R.hA (aO hidG)
    subst hAv
    have hbo:eS G t=G[ae (nms G) t].body:=by
     unfold eS
     rw[hpi]
    have hrom6:=bG hx2 hrom
    have hb6:=de hx2 hb
    have hG6:=aJ hxp hG5 hpt
    have hP6:=aJ hxp hP5 hpt1
    obtain ⟨_,h7,hs7,hx7,⟨ob,s2⟩,hR7,rfl,hS7,hl7,hc7⟩:=ihB (cf (s.set (ae (nms G) t) true)) (lTl hlt hbd) _ G[ae (nms G) t].body (lSs _) _ _ (s.set (ae (nms G) t) true) hrom6 hb6 hkid (hnG _ _ hpi) (av hS5 _) (by simp[hsl]) (lRf _)
    have hx8:=hx2.trans hx7
    have hP7:=aJ hx7 hP6 hpt1
    have hG7:=aJ hx7 hG6 hpt
    simp -dsimp only[go_sem,aa hP5,k3,g2,hfi,bM hidG,aa hS5,hget,Bool.not_false,hsto]
    refine aD (n:=60) [[],[],[1],[],[1,2,3],[1,2,3,4],[1,2,3,4,5],[],[0,1,2,3,4,5,6,7],[0,1,2,3,4,5,6,7,8]] (by simp -dsimp only[go_sem,hn]) (ao (by kernel_rfl)) ?_
    simp -dsimp only[go_sem,g2,af hG6,aa hG6,eQ hidG,az (n:=3) hrom6 hat2 rfl,ab R.hs,ab hkid.same]
    refine ⟨_,h7,hs7,?_⟩
    cases ob with
    | false =>
      simp -dsimp only[go_sem,Bool.not_false,hr]
      exact ⟨hx8,(false,s2),mZ cb c3 hsn (by rw[hbo];exact hR7),rfl,hS7,hl7,Nat.le_of_lt (Nat.lt_of_le_of_lt hc7 hlt)⟩
    | true =>
      simp -dsimp only[go_sem,Bool.not_true,g2]
      refine kd (d:=d) (t:=t) (c:=c) (l:=l) ih hnk R.hs hlb hA hat hk (by simp -dsimp only[go_sem,hn]) (bG hx8 hrom) (de hx8 hb) hS7 hl7 (lTr (Nat.le_of_lt (Nat.lt_of_le_of_lt hc7 hlt)) hbd) hpt hpt1 hP7 hG7 (by simp -dsimp only[go_sem,g2]) (by simp -dsimp only[go_sem]) (by simp -dsimp only[go_sem]) (by simp -dsimp only[go_sem]) (fun a1 h1 s1 hn1 hx1 hR1 hS1 hl1 hc1 => ?_) (fun a1 h1 s1 hn1 hx1 hR1 hS1 hl1 hc1 q6 => ?_)
      ·simp -dsimp only[go_sem,hr]
       subst hl0
       have:=hR1.det j9
       injection this with _ this
       subst this
       exact ⟨hx8.trans hx1,(true,s1),mZ cb c3 hsn (by rw[hbo];exact hR7),rfl,hS1,hl1,Nat.le_of_lt (Nat.lt_of_le_of_lt hc7 hlt)⟩
      ·subst hl0
       have:=hR1.det j9
       injection this with this
       cases this
 have k3:decide (d.data.toList=[114,117,108,101])=false:=dcF c3
 simp -dsimp only[go_sem,aa hP5,k3]
 refine kd (d:=d) (t:=t) (c:=c) (l:=l) ih hnk R.hs hlb hA hat hk (by simp -dsimp only[go_sem,hn]) hrom5 hb5 hS5 hsl hbd hpt hpt1 hP5 hG5 (by simp -dsimp only[go_sem,g2]) (by simp -dsimp only[go_sem]) (by simp -dsimp only[go_sem]) (by simp -dsimp only[go_sem]) (fun a1 h1 s1 hn1 hx1 hR1 hS1 hl1 hc1 => ?_) (fun a1 h1 s1 hn1 hx1 hR1 hS1 hl1 hc1 q6 => ?_)
 ·simp -dsimp only[go_sem,hr]
  exact ⟨hx05.toS.trans hx1,(true,s1),kR cb c3 hR1,rfl,hS1,hl1,hc1⟩
 ·simp -dsimp only[go_sem,q6,hr]
  exact ⟨hx05.toS.trans hx1,(false,s1),kR cb c3 hR1,rfl,hS1,hl1,hc1⟩
end
theorem sG:∀(x y:List UInt8),dQ x y=decide (x<y)
 | _,[]=>by simp[dQ]
 | [],_::_=>by simp[dQ]
 | a::x,b::y=>by
   have ih:=sG x y
   have e1:Nat.blt a.toNat b.toNat=decide (a<b):=by
    rw[Bool.eq_iff_iff]
    simp[Nat.blt_eq,UInt8.lt_iff_toNat_lt]
   have e2:Nat.beq a.toNat b.toNat=decide (a=b):=by
    rw[Bool.eq_iff_iff]
    simp[UInt8.toNat_inj]
   simp only[dQ,ih,e1,e2,List.cons_lt_cons_iff]
   by_cases c1:a<b
   ·simp[c1]
   ·by_cases c2:a=b
    ·subst c2;simp[c1]
    ·simp[c1,c2]
theorem kS (x s:ByteArray):ltB x s=decide (x.data.toList<s.data.toList):=sG _ _
theorem rB {x s:ByteArray} (h:x.data.toList=s.data.toList):x=s:=ByteArray.ext (Array.ext' h)
theorem iW:∀a:Tx,d4 a a=false
 | []=>rfl
 | x::a=>by simp only[d4,if_true,iW a]
theorem fY:∀{a b c:Tx},a.length=b.length->b.length=c.length->d4 a b=true->d4 b c=true->d4 a c=true
 | [],[],[],_,_,h,_=>by cases h
 | x::a,y::b,z::c,h1,h2,h3,h4=>by
   simp only[d4] at h3 h4 ⊢
   by_cases e1:x.data.toList=y.data.toList
   ·rw[if_pos e1] at h3
    by_cases e2:y.data.toList=z.data.toList
    ·rw[if_pos e2] at h4
     rw[if_pos (e1.trans e2)]
     exact fY (by simpa using h1) (by simpa using h2) h3 h4
    ·rw[if_neg e2] at h4
     rw[if_neg (by rw[e1];exact e2),rB e1]
     exact h4
   ·rw[if_neg e1] at h3
    by_cases e2:y.data.toList=z.data.toList
    ·rw[if_neg (by rw[<-e2];exact e1),<-rB e2]
     exact h3
    ·rw[if_neg e2] at h4
     rw[kS] at h3 h4
     have h5:=List.lt_trans (dcO h3) (dcO h4)
     rw[if_neg (fun e=>by rw[e] at h5;exact List.lt_irrefl _ h5),kS]
     exact dcT h5
theorem kU:∀{a b:Tx},a.length=b.length->d4 a b=false->d4 b a=false->a=b
 | [],[],_,_,_=>rfl
 | x::a,y::b,h1,h3,h4=>by
   simp only[d4] at h3 h4
   by_cases e1:x.data.toList=y.data.toList
   ·rw[if_pos e1] at h3
    rw[if_pos e1.symm] at h4
    rw[rB e1,kU (by simpa using h1) h3 h4]
   ·rw[if_neg e1,kS] at h3
    rw[if_neg (fun e=>e1 e.symm),kS] at h4
    exact absurd (List.le_antisymm (List.not_lt.1 (of_decide_eq_false h4)) (List.not_lt.1 (of_decide_eq_false h3))) e1
theorem ip (a:Tx):bW a a=false:=by unfold bW;rw[if_pos rfl];exact iW a
theorem mC {a b c:Tx} (h1:bW a b=true) (h2:bW b c=true):bW a c=true:=by
 unfold bW at *
 by_cases e1:a.length=b.length
 ·rw[if_pos e1] at h1
  by_cases e2:b.length=c.length
  ·rw[if_pos e2] at h2
   rw[if_pos (e1.trans e2)]
   exact fY e1 e2 h1 h2
  ·rw[if_neg e2] at h2
   rw[if_neg (by rw[e1];exact e2),e1]
   exact h2
 ·rw[if_neg e1] at h1
  by_cases e2:b.length=c.length
  ·rw[if_neg (by rw[<-e2];exact e1),<-e2]
   exact h1
  ·rw[if_neg e2] at h2
   have:=dcO h1
   have:=dcO h2
   rw[if_neg (by omega)]
   exact dcT (by omega)
theorem pU {a b:Tx} (h1:bW a b=false) (h2:bW b a=false):a=b:=by
 unfold bW at *
 by_cases e1:a.length=b.length
 ·rw[if_pos e1] at h1
  rw[if_pos e1.symm] at h2
  exact kU e1 h1 h2
 ·rw[if_neg e1] at h1
  rw[if_neg (fun e=>e1 e.symm)] at h2
  have:=of_decide_eq_false h1
  have:=of_decide_eq_false h2
  omega
def aQ (L:List Tx):Prop:=L.Pairwise fun a b=>bW a b=true
theorem uB {L:List Tx} {x:Tx} (h:aQ L):(∀y∈L.take (bZ L x),bW y x=true)/\(∀y∈L.drop (bZ L x),bW y x=false):=by
 constructor
 ·intro y hy
  obtain ⟨j,hj,rfl⟩:=List.mem_take_iff_getElem.1 hy
  obtain ⟨hj2,h2⟩:=vq (L:=L) (x:=x) (j:=j) (by omega)
  exact h2
 ·intro y hy
  obtain ⟨j,hj,rfl⟩:=List.mem_drop_iff_getElem.1 hy
  have hp:bZ L x<L.length:=by omega
  have h3:(!bW (L[bZ L x]) x)=true:=List.findIdx_getElem (w:=hp)
  have h3:bW (L[bZ L x]) x=false:=by simpa using h3
  rcases Nat.eq_zero_or_pos j with e|e
  ·subst e
   simpa using h3
  ·have:=List.pairwise_iff_getElem.1 h (bZ L x) (bZ L x+j) hp (by omega) (by omega)
   cases hc:bW (L[bZ L x+j]) x with
   | false=>rfl
   | true=>rw[mC this hc] at h3;cases h3
theorem kV {L:List Tx} {x:Tx} (h:aQ L):aQ (bp L x)/\∀z,z∈bp L x<->z∈L\/z=x:=by
 obtain ⟨h1,h2⟩:=uB (x:=x) h
 have ins:(∀y∈L.drop (bZ L x),bW x y=true)->aQ (L.take (bZ L x)++[x]++L.drop (bZ L x))/\∀z,z∈L.take (bZ L x)++[x]++L.drop (bZ L x)<->z∈L\/z=x:=by
  intro h3
  constructor
  ·unfold aQ at h ⊢
   rw[<-List.take_append_drop (bZ L x) L,List.pairwise_append] at h
   obtain ⟨p1,p2,p3⟩:=h
   rw[List.append_assoc,List.pairwise_append]
   refine ⟨p1,?_,?_⟩
   ·rw[List.singleton_append,List.pairwise_cons]
    exact ⟨h3,p2⟩
   ·intro y hy z hz
    rcases List.mem_append.1 hz with c|c
    ·rw[List.mem_singleton.1 c]
     exact h1 y hy
    ·exact p3 y hy z c
  ·intro z
   conv=>rhs;rw[<-List.take_append_drop (bZ L x) L]
   simp only[List.mem_append,List.mem_singleton]
   constructor
   ·rintro ((c|c)|c)
    ·exact .inl (.inl c)
    ·exact .inr c
    ·exact .inl (.inr c)
   ·rintro ((c|c)|c)
    ·exact .inl (.inl c)
    ·exact .inr c
    ·exact .inl (.inr c)
 unfold bp
 cases hx:L[bZ L x]? with
 | none =>
   have hge:=List.getElem?_eq_none_iff.1 hx
   refine ins (fun y hy => ?_)
   rw[List.drop_eq_nil_of_le hge] at hy
   cases hy
 | some y =>
   obtain ⟨hp,rfl⟩:=List.getElem?_eq_some_iff.1 hx
   have hmem:L[bZ L x]∈L.drop (bZ L x):=List.mem_drop_iff_getElem.2 ⟨0,by omega,by simp⟩
   by_cases c:bW x L[bZ L x]=false
   ·simp only[if_pos c]
    have e:=pU c (h2 _ hmem)
    refine ⟨h,fun z=>⟨.inl,fun q=>q.elim id (fun q => ?_)⟩⟩
    have hm:∀y,y=L[bZ L x]->y∈L:=fun y ey=>by rw[ey];exact List.getElem_mem hp
    rw[q]
    exact hm x e
   ·simp only[if_neg c]
    refine ins (fun y hy => ?_)
    cases hc:bW x y with
    | true=>rfl
    | false =>
      have e:=pU hc (h2 y hy)
      subst e
      obtain ⟨j,hj,e⟩:=List.mem_drop_iff_getElem.1 hy
      rcases Nat.eq_zero_or_pos j with e0|e0
      ·subst e0
       have:L[bZ L x]=x:=by simpa using e
       rw[this,ip] at c
       exact absurd rfl c
      ·have h5:=List.pairwise_iff_getElem.1 h (bZ L x) (bZ L x+j) hp (by omega) (by omega)
       rw[e,h2 _ hmem] at h5
       cases h5
theorem bL {L:List Tx} (h:aQ L):L.Nodup:=by
 refine h.imp ?_
 intro a b h e
 subst e
 rw[ip] at h
 cases h
theorem iq:∀(M:List Tx) {L:List Tx},aQ L->aQ (M.foldl bp L)/\∀z,z∈M.foldl bp L<->z∈L\/z∈M
 | [],L,h=>⟨h,fun z=>by simp⟩
 | x::M,L,h=>by
   obtain ⟨h1,h2⟩:=kV (x:=x) h
   obtain ⟨h3,h4⟩:=iq M h1
   refine ⟨h3,fun z => ?_⟩
   rw[List.foldl_cons,h4,h2,mCo]
   exact or_assoc
def Star (P:Tx->Prop) (w:Tx):Prop:=∃ws:List Tx,(∀u∈ws,P u)/\w=ws.flatten
mutual
def mkM (R:ByteArray->Tx->Prop):ad->Tx->Prop
 | ⟨d,t,l⟩,w =>
   if d.data.toList=[105,115] then w=[t]
   else if d.data.toList=[114,117,108,101] then R t w
   else if d.data.toList=[115,101,113] then mkS R l w
   else if d.data.toList=[111,114] then mkO R l w
   else if d.data.toList=[111,112,116] then w=[]\/mkO R l w
   else if d.data.toList=[109,97,110,121] then mkH R l w
   else w=[]
def mkS (R:ByteArray->Tx->Prop):List ad->Tx->Prop
 | [],w=>w=[]
 | x::l,w=>∃u v,w=u++v/\mkM R x u/\mkS R l v
def mkO (R:ByteArray->Tx->Prop):List ad->Tx->Prop
 | [],w=>False
 | x::l,w=>mkM R x w\/mkO R l w
def mkH (R:ByteArray->Tx->Prop):List ad->Tx->Prop
 | [],w=>w=[]
 | x::_,w=>Star (fun u=>mkM R x u) w
end
theorem px {most:Nat} {x y:Tx} {out:List Tx} (h:aQ out):aQ (cK most x y out)/\∀z,z∈cK most x y out<->z∈out\/(x.length+y.length<=most/\z=x++y):=by
 unfold cK
 split
 ·rename_i c
  obtain ⟨h1,h2⟩:=kV (x:=x++y) h
  exact ⟨h1,fun z=>by rw[h2];exact ⟨fun q=>q.elim .inl (fun q=>.inr ⟨c,q⟩),fun q=>q.elim .inl (fun q=>.inr q.2)⟩⟩
 ·rename_i c
  exact ⟨h,fun z=>⟨.inl,fun q=>q.elim id (fun q=>absurd q.1 c)⟩⟩
theorem mD {most cap:Nat} (x:Tx):∀(b:List Tx) {s:List Tx×Bool},aQ s.1->(cF most cap x b s).2=true->s.2=true/\aQ (cF most cap x b s).1/\∀z,z∈(cF most cap x b s).1<->z∈s.1\/∃y∈b,x.length+y.length<=most/\z=x++y
 | [],s,h,k=>⟨k,h,fun z=>by simp[cF]⟩
 | y::b,s,h,k=>by
   unfold cF at k ⊢
   split at k
   ·rename_i c
    rw[if_pos c]
    obtain ⟨h1,h2⟩:=px (most:=most) (x:=x) (y:=y) h
    obtain ⟨_,q2,q3⟩:=mD x b (s:=(cK most x y s.1,_)) h1 k
    refine ⟨c,q2,fun z => ?_⟩
    rw[q3,h2]
    constructor
    ·rintro ((q|q)|⟨y',q1,q⟩)
     ·exact .inl q
     ·exact .inr ⟨y,.head _,q⟩
     ·exact .inr ⟨y',.tail _ q1,q⟩
    ·rintro (q|⟨y',q1,q⟩)
     ·exact .inl (.inl q)
     ·cases q1 with
      | head=>exact .inl (.inr q)
      | tail _ q1=>exact .inr ⟨y',q1,q⟩
   ·rename_i c
    exact absurd k c
theorem mE {most cap:Nat} (b:List Tx):∀(a:List Tx) {s:List Tx×Bool},aQ s.1->(aS most cap b a s).2=true->s.2=true/\aQ (aS most cap b a s).1/\∀z,z∈(aS most cap b a s).1<->z∈s.1\/∃x∈a,∃y∈b,x.length+y.length<=most/\z=x++y
 | [],s,h,k=>⟨k,h,fun z=>by simp[aS]⟩
 | x::a,s,h,k=>by
   unfold aS at k ⊢
   split at k
   ·rename_i c
    rw[if_pos c]
    have hok:(cF most cap x b s).2=true:=by
     cases hc:(cF most cap x b s).2 with
     | true=>rfl
     | false =>
       exfalso
       have:∀(a:List Tx) (s:List Tx×Bool),s.2=false->(aS most cap b a s).2=false:=by
        intro a
        cases a with
        | nil=>exact fun s h=>h
        | cons y a=>exact fun s h=>by unfold aS;rw[if_neg (by rw[h];simp)];exact h
       rw[this a _ hc] at k
       cases k
    obtain ⟨_,h1,h2⟩:=mD x b h hok
    obtain ⟨_,q2,q3⟩:=mE b a h1 k
    refine ⟨c,q2,fun z => ?_⟩
    rw[q3,h2]
    constructor
    ·rintro ((q|⟨y,q1,q⟩)|⟨x',q0,q⟩)
     ·exact .inl q
     ·exact .inr ⟨x,.head _,y,q1,q⟩
     ·exact .inr ⟨x',.tail _ q0,q⟩
    ·rintro (q|⟨x',q0,q⟩)
     ·exact .inl (.inl q)
     ·cases q0 with
      | head=>exact .inl (.inr q)
      | tail _ q0=>exact .inr ⟨x',q0,q⟩
   ·rename_i c
    exact absurd k c
theorem oF {most cap:Nat} {a b:List Tx} {ok:Bool} (k:(aS most cap b a ([],ok)).2=true):ok=true/\aQ (aS most cap b a ([],ok)).1/\∀z,z∈(aS most cap b a ([],ok)).1<->∃x∈a,∃y∈b,x.length+y.length<=most/\z=x++y:=by
 obtain ⟨h1,h2,h3⟩:=mE b a (s:=([],ok)) List.Pairwise.nil k
 exact ⟨h1,h2,fun z=>by rw[h3];simp⟩
theorem m8:∀{a b:List Tx},a.Nodup->(∀z∈a,z∈b)->a.length<=b.length
 | [],b,_,_=>lZr _
 | x::a,b,h,k=>by
   rw[List.nodup_cons] at h
   obtain ⟨l1,l2,rfl⟩:=List.append_of_mem (k x (.head _))
   have h2:=m8 (a:=a) (b:=l1++l2) h.2 (fun z hz=>by
    have h3:=k z (.tail _ hz)
    rw[List.mem_append,mCo] at h3
    rw[List.mem_append]
    rcases h3 with c|c|c
    ·exact .inl c
    ·rw[c] at hz
     exact absurd hz h.1
    ·exact .inr c)
   rw[List.length_append] at h2 ⊢
   rw[List.length_cons,List.length_cons]
   omega
theorem vv {a b:List Tx} (ha:a.Nodup) (k:∀z∈a,z∈b) (hl:b.length<=a.length):∀z∈b,z∈a:=by
 intro z hz
 by_cases c:z∈a
 ·exact c
 ·have:=m8 (a:=z::a) (b:=b) (List.nodup_cons.2 ⟨c,ha⟩) (fun y hy=>by
   cases hy with
   | head=>exact hz
   | tail _ hy=>exact k y hy)
  rw[List.length_cons] at this
  omega
theorem Star.nil {P:Tx->Prop}:Star P []:=⟨[],fun u hu=>absurd hu List.not_mem_nil,rfl⟩
theorem Star.snoc {P:Tx->Prop} {u y:Tx} (h:Star P u) (hy:P y):Star P (u++y):=by
 obtain ⟨ws,h1,rfl⟩:=h
 refine ⟨ws++[y],fun v hv => ?_,by simp⟩
 rcases List.mem_append.1 hv with c|c
 ·exact h1 v c
 ·rw[List.mem_singleton.1 c]
  exact hy
theorem Bt {P:Tx->Prop} {most:Nat} {S:List Tx} (h0:[]∈S) (hc:∀u∈S,∀y,P y->u.length+y.length<=most->u++y∈S) {w:Tx} (h:Star P w) (hw:w.length<=most):w∈S:=by
 obtain ⟨ws,h1,rfl⟩:=h
 have go:∀r:List Tx,(∀u∈r.reverse,P u)->r.reverse.flatten.length<=most->r.reverse.flatten∈S:=by
  intro r
  induction r with
  | nil=>exact fun _ _=>h0
  | cons y r ih =>
    intro k1 k2
    rw[List.reverse_cons] at k1 k2 ⊢
    rw[List.flatten_append] at k2 ⊢
    simp only[List.flatten_cons,List.flatten_nil,List.append_nil] at k2 ⊢
    rw[List.length_append] at k2
    exact hc _ (ih (fun u hu=>k1 u (List.mem_append_left _ hu)) (by omega)) y (k1 y (by simp)) k2
 have:=go ws.reverse (by rw[List.reverse_reverse];exact h1) (by rw[List.reverse_reverse];exact hw)
 rwa[List.reverse_reverse] at this
theorem sH {most cap:Nat} {l:List Tx}:∀(k:Nat) (n:Int) (s:List Tx×Bool),(fk most cap l k n s).2=true->s.2=true
 | 0,n,s,h=>h
 | k+1,n,s,h=>by
   unfold fk at h
   split at h
   ·rename_i c
    exact c.2
   ·exact h
theorem pV {most cap:Nat} {l:List Tx} {P:Tx->Prop} (hl:∀z,z∈l<->z.length<=most/\P z):∀(k:Nat) (n:Int) (s:List Tx×Bool),aQ s.1->[]∈s.1->(∀z∈s.1,z.length<=most/\Star P z)->(s.2=true->s.1.length<=cap)->n<=(s.1.length:Int)->(cap:Int)+2<=(k:Int)+n ->
  (n=(s.1.length:Int)->∀u∈s.1,∀y∈l,u.length+y.length<=most->u++y∈s.1)->(fk most cap l k n s).2=true ->
  aQ (fk most cap l k n s).1/\∀z,z∈(fk most cap l k n s).1<->z.length<=most/\Star P z
 | 0,n,s,h1,h2,h3,h4,h5,h6,h7,k=>by
   have:=h4 k
   omega
 | k+1,n,s,h1,h2,h3,h4,h5,h6,h7,hk=>by
   unfold fk at hk ⊢
   split at hk
   ·rename_i c
    rw[if_pos c]
    have hs':=sH _ _ _ hk
    have hs':((aS most cap l s.1 ([],s.2)).2&&decide (((aS most cap l s.1 ([],s.2)).1.foldl bp s.1).length<=cap))=true:=hs'
    rw[Bool.and_eq_true] at hs'
    obtain ⟨_,j1,j2⟩:=oF hs'.1
    obtain ⟨f1,f2⟩:=iq (aS most cap l s.1 ([],s.2)).1 h1
    have hsub:=lO (aS most cap l s.1 ([],s.2)).1 s.1
    refine pV hl k _ (_,_) f1 ((f2 _).2 (.inl h2)) (fun z hz => ?_) (fun e => ?_) (by show (s.1.length:Int)<=(((aS most cap l s.1 ([],s.2)).1.foldl bp s.1).length:Int);omega) (by have:=c.1;omega) (fun e u hu y hy hle => ?_) hk
    ·rcases (f2 z).1 hz with q|q
     ·exact h3 z q
     ·obtain ⟨x,q1,y,q2,q3,rfl⟩:=(j2 z).1 q
      exact ⟨by rw[List.length_append];exact q3,(h3 x q1).2.snoc ((hl y).1 q2).2⟩
    ·exact dcO hs'.2
    ·have hall:=vv (bL h1) (fun z hz=>(f2 z).2 (.inl hz)) (by
      have e:(s.1.length:Int)=(((aS most cap l s.1 ([],s.2)).1.foldl bp s.1).length:Int):=e
      omega) u hu
     exact (f2 _).2 (.inr ((j2 _).2 ⟨u,hall,y,hy,hle,rfl⟩))
   ·rename_i c
    rw[if_neg c]
    have e:n=(s.1.length:Int):=by
     by_cases e:n=(s.1.length:Int)
     ·exact e
     ·exact absurd ⟨e,hk⟩ c
    refine ⟨h1,fun z=>⟨h3 z,fun q => ?_⟩⟩
    exact Bt (P:=P) (most:=most) h2 (fun u hu y hy hle=>h7 e u hu y ((hl y).2 ⟨by omega,hy⟩) hle) q.2 q.1
section
variable {nm:List ByteArray} {made:List (List Tx)} {most cap:Nat}
def RM (nm:List ByteArray) (made:List (List Tx)) (t:ByteArray) (w:Tx):Prop:=w∈made.getD (ae nm t) []
theorem eZ (x:Tx):aQ [x]:=List.pairwise_singleton _ _
mutual
theorem jv (hs:∀m∈made,aQ m) (hfit:∀m∈made,Fit most cap m) (hcap1:1<=cap):∀p:ad,(mkP nm made most cap p).2=true->aQ (mkP nm made most cap p).1/\∀z,z∈(mkP nm made most cap p).1<->z.length<=most/\mkM (RM nm made) p z
 | ⟨d,t,l⟩=>by
   intro k
   rw[mkP] at k ⊢
   simp only[mkM]
   by_cases c1:d.data.toList=[105,115]
   ·simp only[if_pos c1] at k ⊢
    by_cases cm:most<1
    ·simp only[if_pos cm]
     refine ⟨List.Pairwise.nil,fun z=>⟨fun h=>(by cases h),fun ⟨h1,h2⟩ => ?_⟩⟩
     rw[h2] at h1
     simp at h1
     omega
    ·simp only[if_neg cm]
     refine ⟨eZ _,fun z => ?_⟩
     rw[List.mem_singleton]
     exact ⟨fun e=>⟨by rw[e];simp;omega,e⟩,fun q=>q.2⟩
   simp only[if_neg c1] at k ⊢
   by_cases c2:d.data.toList=[114,117,108,101]
   ·simp only[if_pos c2]
    cases he:made[ae nm t]? with
    | none =>
      simp only[RM,List.getD_eq_getElem?_getD,he,Option.getD_none]
      exact ⟨List.Pairwise.nil,fun z=>⟨fun h=>(by cases h),fun q=>(by cases q.2)⟩⟩
    | some m =>
      simp only[RM,List.getD_eq_getElem?_getD,he,Option.getD_some]
      exact ⟨hs m (mOg he),fun z=>⟨fun q=>⟨(hfit m (mOg he)).2 z q,q⟩,fun q=>q.2⟩⟩
   simp only[if_neg c2] at k ⊢
   by_cases c3:d.data.toList=[115,101,113]
   ·simp only[if_pos c3] at k ⊢
    obtain ⟨h1,h2⟩:=oG hs hfit hcap1 l [[]] (eZ _) (fun z hz=>by rw[List.mem_singleton.1 hz];exact lZr _) k
    refine ⟨h1,fun z => ?_⟩
    rw[h2]
    constructor
    ·rintro ⟨q,u,v,hu,hv,rfl⟩
     rw[List.mem_singleton.1 hu] at q ⊢
     exact ⟨q,hv⟩
    ·rintro ⟨q,hv⟩
     exact ⟨q,[],z,.head _,hv,rfl⟩
   simp only[if_neg c3] at k ⊢
   by_cases c4:d.data.toList=[111,114]
   ·simp only[if_pos c4] at k ⊢
    obtain ⟨h1,h2⟩:=lP hs hfit hcap1 l [] List.Pairwise.nil k
    refine ⟨h1,fun z => ?_⟩
    rw[h2]
    exact ⟨fun q=>q.elim (fun q=>by cases q) id,.inr⟩
   simp only[if_neg c4] at k ⊢
   by_cases c5:d.data.toList=[111,112,116]
   ·simp only[if_pos c5] at k ⊢
    obtain ⟨h1,h2⟩:=lP hs hfit hcap1 l [[]] (eZ _) k
    refine ⟨h1,fun z => ?_⟩
    rw[h2,List.mem_singleton]
    constructor
    ·rintro (q|q)
     ·exact ⟨by rw[q];exact lZr _,.inl q⟩
     ·exact ⟨q.1,.inr q.2⟩
    ·rintro ⟨q,q2|q2⟩
     ·exact .inl q2
     ·exact .inr ⟨q,q2⟩
   simp only[if_neg c5] at k ⊢
   by_cases c6:d.data.toList=[109,97,110,121]
   ·simp only[if_pos c6] at k ⊢
    exact sI hs hfit hcap1 l k
   ·simp only[if_neg c6] at k ⊢
    refine ⟨eZ _,fun z => ?_⟩
    rw[List.mem_singleton]
    exact ⟨fun e=>⟨by rw[e];exact lZr _,e⟩,fun q=>q.2⟩
theorem oG (hs:∀m∈made,aQ m) (hfit:∀m∈made,Fit most cap m) (hcap1:1<=cap):∀(l:List ad) (out:List Tx),aQ out->(∀z∈out,z.length<=most)->(iU nm made most cap l out).2=true->aQ (iU nm made most cap l out).1/\∀z,z∈(iU nm made most cap l out).1<->z.length<=most/\∃u v,u∈out/\mkS (RM nm made) l v/\z=u++v
 | [],out,h1,h2,k=>by
   rw[iU]
   refine ⟨h1,fun z => ?_⟩
   simp only[mkS]
   constructor
   ·exact fun q=>⟨h2 z q,z,[],q,rfl,by simp⟩
   ·rintro ⟨_,u,v,hu,rfl,rfl⟩
    simpa using hu
 | x::l,out,h1,h2,k=>by
   rw[iU] at k ⊢
   split at k
   ·rename_i c
    rw[if_pos c]
    obtain ⟨hx,j1,j2⟩:=oF c
    obtain ⟨e1,e2⟩:=jv hs hfit hcap1 x hx
    obtain ⟨q1,q2⟩:=oG hs hfit hcap1 l _ j1 (fun z hz=>by
     obtain ⟨u,hu,v,hv,hle,rfl⟩:=(j2 z).1 hz
     rw[List.length_append]
     exact hle) k
    refine ⟨q1,fun z => ?_⟩
    rw[q2]
    simp only[mkS]
    constructor
    ·rintro ⟨hz,u,v,hu,hv,rfl⟩
     obtain ⟨u1,hu1,u2,hu2,hle,rfl⟩:=(j2 u).1 hu
     exact ⟨hz,u1,u2++v,hu1,⟨u2,v,rfl,((e2 u2).1 hu2).2,hv⟩,by rw[List.append_assoc]⟩
    ·rintro ⟨hz,u,v,hu,⟨v1,v2,rfl,hv1,hv2⟩,rfl⟩
     rw[List.length_append,List.length_append] at hz
     exact ⟨by rw[List.length_append,List.length_append];exact hz,u++v1,v2,(j2 _).2 ⟨u,hu,v1,(e2 v1).2 ⟨by omega,hv1⟩,by omega,rfl⟩,hv2,by rw[List.append_assoc]⟩
   ·cases k
theorem lP (hs:∀m∈made,aQ m) (hfit:∀m∈made,Fit most cap m) (hcap1:1<=cap):∀(l:List ad) (out:List Tx),aQ out->(orP nm made most cap l out).2=true->aQ (orP nm made most cap l out).1/\∀z,z∈(orP nm made most cap l out).1<->z∈out\/(z.length<=most/\mkO (RM nm made) l z)
 | [],out,h1,k=>by
   rw[orP]
   refine ⟨h1,fun z => ?_⟩
   simp only[mkO]
   exact ⟨.inl,fun q=>q.elim id (fun q=>q.2.elim)⟩
 | x::l,out,h1,k=>by
   rw[orP] at k ⊢
   split at k
   ·rename_i c
    rw[if_pos c]
    obtain ⟨e1,e2⟩:=jv hs hfit hcap1 x c.1
    obtain ⟨f1,f2⟩:=iq (mkP nm made most cap x).1 h1
    obtain ⟨q1,q2⟩:=lP hs hfit hcap1 l _ f1 k
    refine ⟨q1,fun z => ?_⟩
    rw[q2,f2,e2]
    simp only[mkO]
    constructor
    ·rintro ((q|q)|q)
     ·exact .inl q
     ·exact .inr ⟨q.1,.inl q.2⟩
     ·exact .inr ⟨q.1,.inr q.2⟩
    ·rintro (q|⟨q,q3|q3⟩)
     ·exact .inl (.inl q)
     ·exact .inl (.inr ⟨q,q3⟩)
     ·exact .inr ⟨q,q3⟩
   ·cases k
theorem sI (hs:∀m∈made,aQ m) (hfit:∀m∈made,Fit most cap m) (hcap1:1<=cap):∀(l:List ad),(jP nm made most cap l).2=true->aQ (jP nm made most cap l).1/\∀z,z∈(jP nm made most cap l).1<->z.length<=most/\mkH (RM nm made) l z
 | [],k=>by
   rw[jP]
   refine ⟨eZ _,fun z => ?_⟩
   simp only[mkH]
   rw[List.mem_singleton]
   exact ⟨fun e=>⟨by rw[e];exact lZr _,e⟩,fun q=>q.2⟩
 | x::l,k=>by
   rw[jP] at k ⊢
   have hx:=sH _ _ _ k
   obtain ⟨e1,e2⟩:=jv hs hfit hcap1 x hx
   have:=pV (P:=fun u=>mkM (RM nm made) x u) e2 (cap+3) (-1) ([[]],(mkP nm made most cap x).2) (eZ _) (.head _) (fun z hz=>by
    rw[List.mem_singleton.1 hz]
    exact ⟨lZr _,Star.nil⟩) (fun _=>by simpa using hcap1) (by simp) (by omega) (fun e=>by simp at e) k
   simp only[mkH]
   exact this
end
end
section
theorem Star.mono {P Q:Tx->Prop} (h:∀u,P u->Q u) {w:Tx}:Star P w->Star Q w
 | ⟨ws,h1,h2⟩=>⟨ws,fun u hu=>h u (h1 u hu),h2⟩
section
variable {R R':ByteArray->Tx->Prop}
mutual
theorem eK (h:∀t w,R t w->R' t w):∀(p:ad) (w:Tx),mkM R p w->mkM R' p w
 | ⟨d,t,l⟩,w=>by
   simp only[mkM]
   intro k
   by_cases c1:d.data.toList=[105,115]
   ·simp only[if_pos c1] at k ⊢;exact k
   simp only[if_neg c1] at k ⊢
   by_cases c2:d.data.toList=[114,117,108,101]
   ·simp only[if_pos c2] at k ⊢;exact h _ _ k
   simp only[if_neg c2] at k ⊢
   by_cases c3:d.data.toList=[115,101,113]
   ·simp only[if_pos c3] at k ⊢;exact kW h l w k
   simp only[if_neg c3] at k ⊢
   by_cases c4:d.data.toList=[111,114]
   ·simp only[if_pos c4] at k ⊢;exact gO h l w k
   simp only[if_neg c4] at k ⊢
   by_cases c5:d.data.toList=[111,112,116]
   ·simp only[if_pos c5] at k ⊢;exact k.imp id (gO h l w)
   simp only[if_neg c5] at k ⊢
   by_cases c6:d.data.toList=[109,97,110,121]
   ·simp only[if_pos c6] at k ⊢;exact sJ h l w k
   ·simp only[if_neg c6] at k ⊢;exact k
theorem kW (h:∀t w,R t w->R' t w):∀(l:List ad) (w:Tx),mkS R l w->mkS R' l w
 | [],w=>by simp only[mkS];exact id
 | x::l,w=>by
   simp only[mkS]
   rintro ⟨u,v,e,h1,h2⟩
   exact ⟨u,v,e,eK h x u h1,kW h l v h2⟩
theorem gO (h:∀t w,R t w->R' t w):∀(l:List ad) (w:Tx),mkO R l w->mkO R' l w
 | [],w=>by simp only[mkO];exact id
 | x::l,w=>by
   simp only[mkO]
   exact Or.imp (eK h x w) (gO h l w)
theorem sJ (h:∀t w,R t w->R' t w):∀(l:List ad) (w:Tx),mkH R l w->mkH R' l w
 | [],w=>by simp only[mkH];exact id
 | x::l,w=>by
   simp only[mkH]
   exact Star.mono (eK h x)
end
end
variable {nm:List ByteArray} {made:List (List Tx)} {most cap:Nat} {B:Nat->ad}
structure InvM (nm:List ByteArray) (B:Nat->ad) (most cap:Nat) (made:List (List Tx)):Prop where
 sorted:∀m∈made,aQ m
 fit:∀m∈made,Fit most cap m
 sub:∀(i:Nat) (m:List Tx),made[i]? = some m->∀z∈m,mkM (RM nm made) (B i) z
theorem CX {i:Nat} {L m:List Tx} (hi:made[i]? = some m) (hs:∀z∈m,z∈L) (t:ByteArray) (w:Tx):RM nm made t w->RM nm (made.set i L) t w:=by
 unfold RM
 intro h
 obtain ⟨hlt,e⟩:=List.getElem?_eq_some_iff.1 hi
 rw[List.getD_eq_getElem?_getD] at h ⊢
 by_cases c:ae nm t=i
 ·rw[c,hi,Option.getD_some] at h
  rw[c,List.getElem?_set_self hlt,Option.getD_some]
  exact hs w h
 ·rw[List.getElem?_set_ne (fun e=>c e.symm)]
  exact h
theorem InvM.grow (k:InvM nm B most cap made) (hcap1:1<=cap) {i:Nat} {m:List Tx} (hi:made[i]? = some m) (hok:(mkP nm made most cap (B i)).2=true) :
  (∀z∈m,z∈(mkP nm made most cap (B i)).1)/\m.length<=(mkP nm made most cap (B i)).1.length/\InvM nm B most cap (made.set i (mkP nm made most cap (B i)).1)/\(m.length=(mkP nm made most cap (B i)).1.length->∀z,z∈m<->z.length<=most/\mkM (RM nm made) (B i) z):=by
 obtain ⟨e1,e2⟩:=jv k.sorted k.fit hcap1 (B i) hok
 have hmm:=mOg hi
 have hsub:∀z∈m,z∈(mkP nm made most cap (B i)).1:=fun z hz=>(e2 z).2 ⟨(k.fit m hmm).2 z hz,k.sub i m hi z hz⟩
 have hnd:=bL (k.sorted m hmm)
 have hlen:=m8 hnd hsub
 have hmono:=CX (nm:=nm) hi hsub
 have hfit:=kP (nm:=nm) k.fit hcap1 (B i)
 obtain ⟨hlt,_⟩:=List.getElem?_eq_some_iff.1 hi
 refine ⟨hsub,hlen,⟨fun q hq => ?_,fun q hq => ?_,fun j q hj z hz => ?_⟩,fun e z => ?_⟩
 ·rcases List.mem_or_eq_of_mem_set hq with c|c
  ·exact k.sorted q c
  ·rw[c];exact e1
 ·rcases List.mem_or_eq_of_mem_set hq with c|c
  ·exact k.fit q c
  ·rw[c];exact hfit
 ·by_cases c:j=i
  ·subst c
   rw[List.getElem?_set_self hlt] at hj
   injection hj with hj
   subst hj
   exact eK hmono _ _ ((e2 z).1 hz).2
  ·rw[List.getElem?_set_ne (fun e=>c e.symm)] at hj
   exact eK hmono _ _ (k.sub j q hj z hz)
 ·rw[<-e2]
  exact ⟨hsub z,vv hnd hsub (by omega) z⟩
end
section
variable {r:Ro} {G:List ar} {Gv:Option Addr} {gc mb most cap:Nat} {made:List (List Tx)}
theorem MadeAt.len {h:Hp} (k:MadeAt h mb made):∃vs,h.own mb 60 vs/\LLVs h vs made/\vs.length=made.length:=k.row.elim fun vs q=>⟨vs,q.1,q.2,q.2.len⟩
theorem LLVs.set {h:Hp} {w:Value} {L:List Tx} (hw:LLV h w L):∀{vs:List Value} {m:List (List Tx)} (i:Nat),LLVs h vs m->LLVs h (vs.set i w) (m.set i L)
 | [],[],_,_=>trivial
 | [],_::_,_,k=>k.elim
 | v::vs,l::m,0,k=>⟨hw,k.2⟩
 | v::vs,l::m,i+1,k=>⟨k.1,LLVs.set hw i k.2⟩
theorem TxVs.put {h:Hp} {b:Nat} {o:ak} (hx:∀{cs:List Value} {v:Value},OwnZ 9 h 0 0 cs v->OwnZ 9 (h.put b o) 0 0 cs v):∀{vs:List Value} {l:List Tx},TxVs h vs l->TxVs (h.put b o) vs l
 | [],[],_=>trivial
 | [],_::_,k=>k.elim
 | v::vs,ss::l,k=>⟨hx k.1,TxVs.put hx k.2⟩
theorem OwnZ.put {e e':TypeId} {h:Hp} {b:Nat} {c0:List Value} (hb:h.own b e' c0) (hne:e'≠e) (o:ak) {n0 f0:Nat} {cs:List Value} {v:Value} (k:OwnZ e h n0 f0 cs v):OwnZ e (h.put b o) n0 f0 cs v:=by
 rcases k with k|⟨p,f,e1,hr,q⟩
 ·exact .inl k
 ·exact .inr ⟨p,f,e1,bR (S:=aR b) ((Ext.refl h).toS.put (S:=aR b) (b:=b) (.inr rfl) o) hr (fun c=>lw hr hb hne c.symm),q⟩
theorem LLV.put {h:Hp} {b:Nat} {c0:List Value} (hb:h.own b 60 c0) (o:ak) {v:Value} {l:List Tx} (k:LLV h v l):LLV (h.put b o) v l :=
 k.elim fun vs q=>⟨vs,q.1.put hb (by decide) o,TxVs.put (fun k=>k.put hb (by decide) o) q.2⟩
theorem LLVs.put {h:Hp} {b:Nat} {c0:List Value} (hb:h.own b 60 c0) (o:ak):∀{vs:List Value} {m:List (List Tx)},LLVs h vs m->LLVs (h.put b o) vs m
 | [],[],_=>trivial
 | [],_::_,k=>k.elim
 | v::vs,l::m,k=>⟨LLV.put hb o k.1,LLVs.put hb o k.2⟩
theorem MadeAt.set {h:Hp} (k:MadeAt h mb made) {w:Value} {L:List Tx} (hw:LLV h w L) {i:Nat} (hi:i<made.length):∃h1,h.stores ⟨mb,i,none⟩ [w]=some h1/\ExtS (aR mb) h h1/\MadeAt h1 mb (made.set i L):=by
 obtain ⟨vs,h1,h2,h3⟩:=k.len
 have hsp:bC vs i [w]=some (vs.set i w):=by
  clear h1 h2 k hw
  have go:∀(c:List Value) (i:Nat),i<c.length->bC c i [w]=some (c.set i w):=by
   intro c
   induction c with
   | nil=>intro i hi;simp at hi
   | cons v c ih =>
     intro i hi
     cases i with
     | zero=>cases c<;>rfl
     | succ i=>simp only[bC,ih i (by simpa using hi),List.set_cons_succ]
  exact go vs i (by omega)
 refine ⟨_,aE h1 (o:=i) (vs:=[w]) hw.cell hsp (by simp),(Ext.refl h).toS.put (S:=aR mb) (b:=mb) (.inr rfl) _,⟨_,av h1 _,?_⟩⟩
 exact LLVs.put h1 _ (h2.set hw i)
end
section
variable {r:Ro} {G:List ar} {Gv:Option Addr} {gc mb most cap:Nat}
def aZ (G:List ar) (i:Nat):ad:=match G[i]? with
 | some x=>x.body
 | none=>⟨⟨#[]⟩,⟨#[]⟩,[]⟩
def PlQ (G:List ar) (i:Nat) (b:Bool):Prop:=∃s,RunsQ G (.part (aZ G i)) (List.replicate G.length false) (b,s)
def iX (m:List (List Tx)):Nat:=(m.map List.length).sum
theorem sK:∀{m:List (List Tx)} {i:Nat} {q L:List Tx},m[i]? = some q->iX (m.set i L)+q.length=iX m+L.length
 | x::m,0,q,L,h=>by
   simp at h
   subst h
   simp[iX]
   omega
 | x::m,i+1,q,L,h=>by
   have:=sK (m:=m) (i:=i) (q:=q) (L:=L) (by simpa using h)
   simp only[iX,List.set_cons_succ,List.map_cons,List.sum_cons] at this ⊢
   omega
structure y4 (G:List ar) (most cap:Nat) (made0 made:List (List Tx)) (again:Bool) (i:Nat):Prop where
 inv:InvM (nms G) (aZ G) most cap made
 len:made.length=G.length
 nop:∀j,PlQ G j false->made[j]? = some []\/made[j]? = none
 same:again=false->made=made0
 more:again=true->iX made0<iX made
 fix:again=false->∀j m,j<i->PlQ G j true->made0[j]? = some m->∀z,z∈m<->z.length<=most/\mkM (RM (nms G) made0) (aZ G j) z
theorem uC {gb go gp:Nat} {gcss:Nat->List Value} (R:bd r G Gv gc gb go gcss) (hnG:∀(i:Nat) (x:ar),G[i]? = some x->ay (nms G) x.body=true) (hcap1:1<=cap) (hcap:cap<=1000) (hmost:most<=1000) {made0:List (List Tx)} (hgm:gp≠mb)
  {a:Ev.A} {h:Hp} {x1 x8 x9 x10:Value} {Q:Ex->Ev.A->Hp->Prop} (hn:a.n=96) (hrom:h.rom=r) (hb:h.base<=h.next) (hM:MadeAt h mb made0) (hI:y4 G most cap made0 made0 false 0) (hG:h.own gp 24 [.slice Gv G.length gc])
  (g1:a.get 1=x1) (g2:a.get 2=.int .i64 (most:Int)) (g3:a.get 3=.int .i64 (cap:Int)) (g4:a.get 4=.pointer (some ⟨gp,0,none⟩)) (g11:a.get 11=.slice (some ⟨mb,0,none⟩) G.length G.length) (g12:a.get 12=.bool false) (g13:a.get 13=.int .i64 0)
  (hq0:∀(a1:Ev.A) (h1:Hp) (made:List (List Tx)) (again:Bool),a1.n=96->ExtS (aR mb) h h1->MadeAt h1 mb made->y4 G most cap made0 made again G.length->a1.get 1=x1->a1.get 2=.int .i64 (most:Int)->a1.get 3=.int .i64 (cap:Int)->a1.get 4=.pointer (some ⟨gp,0,none⟩)->a1.get 11=.slice (some ⟨mb,0,none⟩) G.length G.length->a1.get 12=.bool again->Q (.exit 2) a1 h1)
  (hq1:∀(a1:Ev.A) (h1:Hp),a1.n=96->ExtS (aR mb) h h1->a1.get 8=.slice none 0 0->a1.get 9=.int .i64 0->a1.get 10=.bool false->Q .ret a1 h1) :
  Th Tryz.prog (aw Tryz.f7 [1,1,1,1,0,1,0,0,1,0,1,1,0]) a h Q ⟨⟩ ⟨⟩:=by
 simp only[aw,nav,Tryz.f7]
 refine au (n:=96) (by kernel_rfl) (fun m' a' h'=>∃(i:Nat) (made:List (List Tx)) (again:Bool),i<=G.length/\m'=G.length - i/\ExtS (aR mb) h h'/\MadeAt h' mb made/\y4 G most cap made0 made again i /\
  a'.get 1=x1/\a'.get 2=.int .i64 (most:Int)/\a'.get 3=.int .i64 (cap:Int)/\a'.get 4=.pointer (some ⟨gp,0,none⟩)/\a'.get 11=.slice (some ⟨mb,0,none⟩) G.length G.length/\a'.get 12=.bool again/\a'.get 13=.int .i64 (i:Int)) ?_ G.length _ _ hn
  ⟨0,made0,false,lZr _,rfl,(Ext.refl _).toS,hM,hI,g1,g2,g3,g4,g11,g12,g13⟩
 rintro m' a' h' hn' ⟨i,made,again,hi,rfl,hx,hM',hI',e1,e2,e3,e4,e11,e12,e13⟩
 have hrom':h'.rom=r:=bG hx hrom
 have hb':h'.base<=h'.next:=de hx hb
 have hG':=aJ hx hG hgm
 by_cases hlt:i<G.length
 rotate_left
 ·have hi0:decide ((i:Int)<(G.length:Int))=false:=dcF (by omega)
  have:i=G.length:=by omega
  subst this
  simp -dsimp only[go_sem,e11,e13,hi0]
  exact hq0 _ _ made again (by simp -dsimp only[go_sem,hn']) hx hM' hI' (by simp -dsimp only[go_sem,e1]) (by simp -dsimp only[go_sem,e2]) (by simp -dsimp only[go_sem,e3]) (by simp -dsimp only[go_sem,e4]) (by simp -dsimp only[go_sem,e11]) (by simp -dsimp only[go_sem,e12])
 have hi1:decide ((i:Int)<(G.length:Int))=true:=dcT (Int.ofNat_lt.2 hlt)
 have hpi:G[i]? = some G[i]:=gEl hlt
 have hbi:aZ G i=G[i].body:=by unfold aZ;rw[hpi]
 obtain ⟨Av1,c1',hcs⟩:=(R.hk _ _ hpi).shape
 have hat':=R.hat _ _ hpi
 have hkid:=R.hk _ _ hpi
 rw[hcs] at hat' hkid
 have hat2:=dY hat'
 have hAv:=R.hA (aO hlt)
 subst hAv
 have hx1:=Ext.new h' (ak.cells { c:=(List.replicate G.length false).map .bool,e:=4,fam:=0,base:=0,grown:=false })
 have htb:=an hb' 4 ((List.replicate G.length false).map .bool)
 have hb1:=Nat.le_succ_of_le (m:=h'.next) hb'
 obtain ⟨_,h2,hs2,hx2,⟨ob,s2⟩,hR2,rfl,_,_,_⟩:=oE R hnG (tb:=h'.next) _ _ G[i].body (lSs _) _ _ (List.replicate G.length false) (hx1.rom.trans hrom') hb1 hkid (hnG _ _ hpi) htb (by simp) (lRf _)
 have hx3:Ext h' h2:=(hx1.toS.trans hx2).ext (fun b hb c=>absurd (show b=h'.next from c) (by omega))
 have hG2:=aj hx3 hG'
 have hGn:=aj hx1 hG'
 have hb2:h2.base<=h2.next:=by rw[hx3.base];exact lTr hb' hx3.next
 have hrom2:h2.rom=r:=hx3.rom.trans hrom'
 simp -dsimp only[go_sem,e4,e11,e13,hi1]
 refine aD (n:=96) [[],[],[1],[],[1,2,3],[1,2,3,4],[1,2,3,4,5],[],[7],[7,8],[7,8,9],[0,1,2,3,4,5,6,7,8,9,10],[0,1,2,3,4,5,6,7,8,9,10,11]] (by simp -dsimp only[go_sem,hn']) (ao (by kernel_rfl)) ?_
 simp -dsimp only[go_sem,e4,e13,bu,af hG',aa hG',af hGn,aa hGn,eQ hlt,az (n:=3) hrom' hat2 rfl,az (n:=3) (hx1.rom.trans hrom') hat2 rfl,jS G.length G.length (lRf _) R.hb,cl,ab R.hs,ab hkid.same]
 refine ⟨_,h2,hs2,?_⟩
 have hM2:=hM'.ext hx3
 have hxS:=hx.trans hx3.toS
 have hlm:i<made.length:=by rw[hI'.len];exact hlt
 have hmi:made[i]? = some made[i]:=gEl hlm
 cases ob with
 | false =>
   simp -dsimp only[go_sem,Bool.not_false,e1,e2,e3,e4,e11,e12,e13,ah hlt (lTr R.hb (by decide))]
   refine ⟨G.length - (i+1),by omega,i+1,made,again,hlt,rfl,hxS,hM2,⟨hI'.inv,hI'.len,hI'.nop,hI'.same,hI'.more,fun ha j m hj hp => ?_⟩,rfl,rfl⟩
   by_cases e:j=i
   ·subst e
    obtain ⟨s3,hR3⟩:=hp
    rw[hbi] at hR3
    have:=hR2.det hR3
    injection this with this
    cases this
   ·exact hI'.fix ha j m (by omega) hp
 | true =>
   simp -dsimp only[go_sem,Bool.not_true,e1,e2,e3,e4,e11,e12,e13]
   obtain ⟨_,h4,hs4,hx4,w4,rfl,hL4⟩:=Br R hI'.inv.fit hI'.len hcap1 hcap hmost _ G[i].body (lSs _) h2 _ hrom2 hb2 hM2 hkid (hnG _ _ hpi)
   rw[show mkP (nms G) made most cap G[i].body=mkP (nms G) made most cap (aZ G i) by rw[hbi]] at hs4 hL4
   have s6:=hL4.same 8
   have s7:=hL4.same 9
   have hxS4:=hxS.trans hx4.toS
   have hM4:=hM2.ext hx4
   have hbi2:=hbi
   refine aD (n:=96) [[],[],[],[2],[],[2,3,4],[2,3,4,5],[2,3,4,5,6],[],[],[0,1,2,3,4,5,6,7,8,9],[0,1,2,3,4,5,6,7,8,9,10],[0,1,2,3,4,5,6,7,8,9,10,11],[0,1,2,3,4,5,6,7,8,9,10,11],[0,1,2,3,4,5,6,7,8,9,10,11,12],[0,1,2,3,4,5,6,7,8,9,10,11,12,13,14]] (by simp -dsimp only[go_sem,hn']) (ao (by kernel_rfl)) ?_
   simp -dsimp only[go_sem,e2,e3,e4,e11,e13,af hG2,aa hG2,eQ hlt,az (n:=3) hrom2 hat2 rfl,ab R.hs,ab hkid.same]
   refine ⟨_,h4,hs4,?_⟩
   simp -dsimp only[go_sem,s6,s7]
   cases hok:(mkP (nms G) made most cap (aZ G i)).2 with
   | false =>
     simp -dsimp only[go_sem,Bool.not_false]
     exact hq1 _ _ (by simp -dsimp only[go_sem,hn']) hxS4 (by simp -dsimp only[go_sem]) (by simp -dsimp only[go_sem]) (by simp -dsimp only[go_sem])
   | true =>
     obtain ⟨q1,q2,q3,q4⟩:=hI'.inv.grow hcap1 hmi hok
     generalize (mkP (nms G) made most cap (aZ G i)).1=L at hL4 q1 q2 q3 q4
     obtain ⟨vs,hv1,hv2,hv3⟩:=hM4.len
     obtain ⟨wi,hw1,hw2⟩:=hv2.get _ _ hmi
     obtain ⟨Ai,rfl,_,_⟩:=hw2.at'
     obtain ⟨A4,rfl,_,_⟩:=hL4.at'
     have ld:h4.load ⟨mb,0+i*1,none⟩=some (.slice Ai made[i].length made[i].length):=by rw[Nat.zero_add,Nat.mul_one,aa hv1,hw1]
     have ld2:h4.load ⟨mb,i,none⟩=some (.slice Ai made[i].length made[i].length):=by rw[aa hv1,hw1]
     by_cases hle:made[i].length=L.length
     ·have k1:decide ((L.length:Int)=(made[i].length:Int))=true:=dcT (by omega)
      simp -dsimp only[go_sem,Bool.not_true,e1,e2,e3,e4,e11,e12,e13,vp hlt,ld,ld2,Nat.zero_add,Nat.mul_one,k1,ah hlt (lTr R.hb (by decide))]
      refine ⟨G.length - (i+1),by omega,i+1,made,again,hlt,rfl,hxS4,hM4,⟨hI'.inv,hI'.len,hI'.nop,hI'.same,hI'.more,fun ha j m hj hp hjm => ?_⟩,?_⟩
      ·by_cases e:j=i
       ·subst e
        have e0:=hI'.same ha
        subst e0
        rw[hmi] at hjm
        injection hjm with hjm
        subst hjm
        exact q4 hle
       ·exact hI'.fix ha j m (by omega) hp hjm
      ·exact ⟨rfl,rfl⟩
     ·have k1:decide ((L.length:Int)=(made[i].length:Int))=false:=dcF (by omega)
      obtain ⟨h5,hst,hx5,hM5⟩:=hM4.set hL4 hlm
      have hst':h4.stores ⟨mb,0+i*1,none⟩ [.slice A4 L.length L.length]=some h5:=by rw[Nat.zero_add,Nat.mul_one];exact hst
      have htot:=sK (L:=L) hmi
      have hmore:iX made0<iX (made.set i L):=by
       cases ha:again with
       | false =>
         have e0:iX made=iX made0:=by rw[hI'.same ha]
         omega
       | true =>
         have:=hI'.more ha
         omega
      simp -dsimp only[go_sem,Bool.not_true,Bool.not_false,e1,e2,e3,e4,e11,e12,e13,vp hlt,ld,ld2,Nat.zero_add,Nat.mul_one,k1,hst,ah hlt (lTr R.hb (by decide))]
      refine ⟨G.length - (i+1),by omega,i+1,made.set i L,true,hlt,rfl,hxS4.trans hx5,hM5,⟨q3,by rw[List.length_set];exact hI'.len,fun j hp => ?_,fun c=>absurd c (by simp),fun _=>hmore,fun c=>absurd c (by simp)⟩,?_⟩
      ·by_cases e:j=i
       ·subst e
        obtain ⟨s3,hR3⟩:=hp
        rw[hbi] at hR3
        have:=hR2.det hR3
        injection this with this
        cases this
       ·rw[List.getElem?_set_ne (fun e'=>e e'.symm)]
        exact hI'.nop j hp
      ·exact ⟨rfl,rfl⟩
end
section
variable {r:Ro} {G:List ar} {Gv:Option Addr} {gc mb most cap:Nat}
theorem rC {c:Nat}:∀{m:List (List Tx)},(∀q∈m,q.length<=c)->iX m<=m.length*c
 | [],_=>by simp[iX]
 | x::m,h=>by
   have:=rC (m:=m) (fun q hq=>h q (.tail _ hq))
   have h1:=h x (.head _)
   simp only[iX,List.map_cons,List.sum_cons,List.length_cons,Nat.add_mul] at this ⊢
   omega
structure sL (G:List ar) (most cap:Nat) (made:List (List Tx)):Prop where
 inv:InvM (nms G) (aZ G) most cap made
 len:made.length=G.length
 nop:∀j,PlQ G j false->made[j]? = some []\/made[j]? = none
 fix:∀j m,PlQ G j true->made[j]? = some m->∀z,z∈m<->z.length<=most/\mkM (RM (nms G) made) (aZ G j) z
theorem uD {gb go gp:Nat} {gcss:Nat->List Value} (R:bd r G Gv gc gb go gcss) (hnG:∀(i:Nat) (x:ar),G[i]? = some x->ay (nms G) x.body=true) (hcap1:1<=cap) (hcap:cap<=1000) (hmost:most<=1000) {made0:List (List Tx)} (hgm:gp≠mb)
  {a:Ev.A} {h:Hp} {x1 x8 x9 x10:Value} {Q:Ex->Ev.A->Hp->Prop} (hn:a.n=96) (hrom:h.rom=r) (hb:h.base<=h.next) (hM:MadeAt h mb made0) (hI:InvM (nms G) (aZ G) most cap made0) (hl:made0.length=G.length) (hnop:∀j,PlQ G j false->made0[j]? = some []\/made0[j]? = none) (hG:h.own gp 24 [.slice Gv G.length gc])
  (g1:a.get 1=x1) (g2:a.get 2=.int .i64 (most:Int)) (g3:a.get 3=.int .i64 (cap:Int)) (g4:a.get 4=.pointer (some ⟨gp,0,none⟩)) (g11:a.get 11=.slice (some ⟨mb,0,none⟩) G.length G.length) (g12:a.get 12=.bool true)
  (hq0:∀(a1:Ev.A) (h1:Hp) (made:List (List Tx)),a1.n=96->ExtS (aR mb) h h1->MadeAt h1 mb made->sL G most cap made->a1.get 1=x1->a1.get 4=.pointer (some ⟨gp,0,none⟩)->a1.get 11=.slice (some ⟨mb,0,none⟩) G.length G.length->Q (.exit 0) a1 h1)
  (hq1:∀(a1:Ev.A) (h1:Hp),a1.n=96->ExtS (aR mb) h h1->a1.get 8=.slice none 0 0->a1.get 9=.int .i64 0->a1.get 10=.bool false->Q .ret a1 h1) :
  Th Tryz.prog (aw Tryz.f7 [1,1,1,1,0,1,0]) a h Q ⟨⟩ ⟨⟩:=by
 simp only[aw,nav,Tryz.f7]
 refine au (n:=96) (by kernel_rfl) (fun m' a' h'=>∃(made:List (List Tx)) (b:Bool),m'=(if b=true then 1 else 0)+(G.length*(2*cap+1) - iX made)/\ExtS (aR mb) h h'/\MadeAt h' mb made/\InvM (nms G) (aZ G) most cap made/\made.length=G.length/\(∀j,PlQ G j false->made[j]? = some []\/made[j]? = none)/\(b=false->sL G most cap made) /\
  a'.get 1=x1/\a'.get 2=.int .i64 (most:Int)/\a'.get 3=.int .i64 (cap:Int)/\a'.get 4=.pointer (some ⟨gp,0,none⟩)/\a'.get 11=.slice (some ⟨mb,0,none⟩) G.length G.length/\a'.get 12=.bool b) ?_ _ _ _ hn
  ⟨made0,true,rfl,(Ext.refl _).toS,hM,hI,hl,hnop,fun c=>absurd c (by simp),g1,g2,g3,g4,g11,g12⟩
 rintro m' a' h' hn' ⟨made,b,rfl,hx,hM',hI',hl',hnop',hfx,e1,e2,e3,e4,e11,e12⟩
 cases b with
 | false =>
   simp -dsimp only[go_sem,e12]
   exact hq0 _ _ made (by simp -dsimp only[go_sem,hn']) hx hM' (hfx rfl) (by simp -dsimp only[go_sem,e1]) (by simp -dsimp only[go_sem,e4]) (by simp -dsimp only[go_sem,e11])
 | true =>
   have htl:iX made<=G.length*(2*cap+1):=by
    have:=rC (m:=made) (c:=2*cap+1) (fun q hq=>(hI'.fit q hq).1)
    rwa[hl'] at this
   simp -dsimp only[go_sem,e12]
   refine uC (x8:=x8) (x9:=x9) (x10:=x10) (x1:=x1) (made0:=made) R hnG hcap1 hcap hmost hgm (by simp -dsimp only[go_sem,hn']) (bG hx hrom) (de hx hb) hM' ⟨hI',hl',hnop',fun _=>rfl,fun c=>absurd c (by simp),fun _ j m hj=>absurd hj (lNz _)⟩ (aJ hx hG hgm) (by simp -dsimp only[go_sem,e1]) (by simp -dsimp only[go_sem,e2]) (by simp -dsimp only[go_sem,e3]) (by simp -dsimp only[go_sem,e4]) (by simp -dsimp only[go_sem,e11]) (by simp -dsimp only[go_sem]) (by simp -dsimp only[go_sem]) (fun a1 h1 made1 again hn1 hx1 hM1 hS1 q1 q2 q3 q4 q11 q12 => ?_) (fun a1 h1 hn1 hx1 q8 q9 q10 => ?_)
   ·simp -dsimp only[go_sem]
    refine ⟨(if again=true then 1 else 0)+(G.length*(2*cap+1) - iX made1),?_,made1,again,rfl,hx.trans hx1,hM1,hS1.inv,hS1.len,hS1.nop,fun ha => ?_,q1,q2,q3,q4,q11,q12⟩
    ·cases again with
     | false =>
       have:=hS1.same rfl
       rw[this]
       simp
     | true =>
       have:=hS1.more rfl
       have htl1:iX made1<=G.length*(2*cap+1):=by
        have:=rC (m:=made1) (c:=2*cap+1) (fun q hq=>(hS1.inv.fit q hq).1)
        rwa[hS1.len] at this
       simp only[if_true]
       omega
    ·have e0:=hS1.same ha
     refine ⟨hS1.inv,hS1.len,hS1.nop,fun j m hp hm => ?_⟩
     have hjl:j<G.length:=by
      have:=(List.getElem?_eq_some_iff.1 hm).1
      rw[hS1.len] at this
      exact this
     have:=hS1.fix ha j m hjl hp
     rw[e0] at hm ⊢
     exact this hm
   ·simp -dsimp only[go_sem]
    exact hq1 _ _ (by simp -dsimp only[go_sem,hn1]) (hx.trans hx1) q8 q9 q10
end
section
variable {r:Ro} {G:List ar} {Gv:Option Addr} {gc mb most cap:Nat}
theorem oH {α:Type} (f:α->α) (a:Nat):∀(b:Nat) (x:α),ll f (a+b) x=ll f b (ll f a x)
 | 0,x=>rfl
 | b+1,x=>by show f (ll f (a+b) x)=f (ll f b (ll f a x));rw[oH f a b x]
theorem oI {α:Type} (f:α->α) {x:α} (h:f x=x):∀b:Nat,ll f b x=x
 | 0=>rfl
 | b+1=>by show f (ll f b x)=x;rw[oI f h b,h]
theorem Found.uniq {l:List ar} {em em':List Bool} (h:Found l em) (h':Found l em'):em=em':=by
 obtain ⟨⟨k,hk⟩,hf⟩:=h
 obtain ⟨⟨k',hk'⟩,hf'⟩:=h'
 rcases Nat.le_total k k' with c|c
 ·obtain ⟨d,rfl⟩:=Nat.le.dest c
  rw[oH,<-hk,oI _ hf d] at hk'
  exact hk'.symm
 ·obtain ⟨d,rfl⟩:=Nat.le.dest c
  rw[oH,<-hk',oI _ hf' d] at hk
  exact hk
theorem oJ (r:Ro) (s:ByteArray):RoPart r (jT s) [.string ⟨#[114,117,108,101]⟩,.string s,.slice none 0 0] :=
 .mk _ _ [] none 0 0 0 (fun _=>[]) (lRf _) (lZr _) (fun e=>absurd rfl e) (fun i p e=>by simp at e) (fun i p e=>by simp at e) rfl
theorem oK:∀n:Nat,aC [Value.slice none 0 0] n=List.replicate n (.slice none 0 0)
 | 0=>rfl
 | n+1=>by simp only[aC,oK n,List.replicate_succ,List.cons_append,List.nil_append]
theorem LLVs.nils {h:Hp}:∀n:Nat,LLVs h (List.replicate n (.slice none 0 0)) (List.replicate n [])
 | 0=>trivial
 | n+1=>⟨LLV.nil,LLVs.nils n⟩
def PlR (G:List ar) (rule:ByteArray) (b:Bool):Prop:=∃s,RunsQ G (.part (jT rule)) (List.replicate G.length false) (b,s)
def okM (G:List ar) (rule:ByteArray):Prop:=(co G=true/\∃em,Found G em/\gB G em rule=true)/\PlR G rule true
def Bu (G:List ar) (rule:ByteArray) (most:Int) (cap:Nat) (h:Hp) (v:Value) (h1:Hp):Prop:=Ext h h1 /\
 ((¬okM G rule/\v=.tuple #[.slice none 0 0,.int .i64 240,.bool true])\/(okM G rule/\most<0/\v=.tuple #[.slice none 0 0,.int .i64 0,.bool true]) \/
   (okM G rule/\v=.tuple #[.slice none 0 0,.int .i64 0,.bool false]) \/
   (okM G rule/\∃(n:Nat) (made:List (List Tx)) (L:List Tx) (w:Value),most=(n:Int)/\sL G n cap made/\made[ae (nms G) rule]? = some L/\LLV h1 w L/\v=.tuple #[w,.int .i64 0,.bool true]))
theorem uE {gb go:Nat} {gcss:Nat->List Value} (R:bd r G Gv gc gb go gcss) (hft:lp G) (rule:ByteArray) (most:Int) (hmost:most<=1000) (hcap1:1<=cap) (hcap:cap<=1000) (h:Hp) (hrom:h.rom=r) (hb:h.base<=h.next) :
  ∃v h1,Snd Tryz.prog 7 [.agg #[.slice Gv G.length gc],.string rule,.int .i64 most,.int .i64 (cap:Int)] h v h1/\Bu G rule most cap h v h1:=by
 have hnl:(nms G).length=G.length:=by simp[nms]
 refine aL wf Tryz.func7 rfl rfl (n:=96) rfl (by kernel_rfl) rfl ?_
 intro a hn hg
 have hr:Tryz.f7.results.toList=[.tmp 8,.tmp 9,.tmp 10]:=rfl
 have g0:=hg 0
 have g1:=hg 1
 have g2:=hg 2
 have g3:=hg 3
 clear hg
 simp only[gC0,gC1] at g0 g1 g2 g3
 have hP:=an hb 24 [.slice Gv G.length gc]
 have hx0:=Ext.new h (ak.cells ⟨[.slice Gv G.length gc],24,0,0,false⟩)
 have hnx:(h.newH (ak.cells ⟨[.slice Gv G.length gc],24,0,0,false⟩)).next=h.next+1:=rfl
 simp -dsimp only[go_sem,g0,g1,g2,g3]
 generalize h.newH (ak.cells ⟨[.slice Gv G.length gc],24,0,0,false⟩)=h2 at hP hx0 hnx ⊢
 have hb2:h2.base<=h2.next:=by rw[hx0.base];exact lTr hb hx0.next
 have hrom2:h2.rom=r:=hx0.rom.trans hrom
 obtain ⟨_,h3,hs3,hx3,hv⟩:=xK R hft h2 hrom2 hb2
 have hb3:h3.base<=h3.next:=by rw[hx3.base];exact lTr hb2 hx3.next
 have hx03:=hx0.trans hx3
 have hrom3:h3.rom=r:=hx03.rom.trans hrom
 have hP3:=aj hx3 hP
 refine aD (n:=96) [[],[0],[0,1],[0,1,2],[0,1,2,3],[0,1,2,3],[0,1,2,3,4,5],[0,1,2,3,4,5,6],[0,1,2,3,4,5,6,7],[0,1,2,3,4,5,6,7,8],[0,1,2,3,4,5,6,7,8,9],[0,1,2,3,4,5,6,7,8,9],[0,1,2,3,4,5,6,7,8,9,11],[0,1,2,3,4,5,6,7,8,9],[0,1,2,3,4,5,6,7,8,9,13],[0,1,2,3,4,5,6,7,8,9,13,14],[0,1,2,3,4,5,6,7,8,9,13,14,15],[0,1,2,3,4,5,6,7,8,9,10,11,12,13,14,15,16],[0,1,2,3,4,5,6,7,8,9,10,11,12,13,14,15,16,17],[0,1,2,3,4,5,6,7,8,9,10,11,12,13,14,15,16,17,18]] (by simp -dsimp only[go_sem,hn]) (ao (by kernel_rfl)) ?_
 by_cases hrg:co G=true
 rotate_left
 ·rw[if_neg hrg] at hv
  subst hv
  simp -dsimp only[go_sem,af hP,aa hP,af hP3,aa hP3,g1,ab R.hs]
  refine ⟨_,h3,hs3,?_⟩
  simp -dsimp only[go_sem,Bool.not_false,hr]
  exact ⟨hx03,.inl ⟨fun c=>hrg c.1.1,rfl⟩⟩
 rw[if_pos hrg] at hv
 obtain ⟨em0,hF0,rfl⟩:=hv
 cases hfi:mI G em0 with
 | false =>
   rw[hfi] at hs3
   simp -dsimp only[go_sem,af hP,aa hP,af hP3,aa hP3,g1,ab R.hs]
   refine ⟨_,h3,hs3,?_⟩
   simp -dsimp only[go_sem,Bool.not_false,hr]
   refine ⟨hx03,.inl ⟨?_,rfl⟩⟩
   rintro ⟨⟨_,em,e2,e3⟩,_⟩
   rw[hF0.uniq e2] at hfi
   unfold gB at e3
   rw[hfi] at e3
   cases e3
 | true =>
   rw[hfi] at hs3
   obtain ⟨_,h4,hs4,rfl,hx4⟩:=jd R rule h3 hrom3 hb3
   have hx04:=hx03.trans hx4
   have hb4:h4.base<=h4.next:=by rw[hx04.base];exact lTr hb hx04.next
   have hrom4:h4.rom=r:=hx04.rom.trans hrom
   have hP4:=aj hx4 hP3
   rw[dZ,hnl] at hs4
   by_cases hidx:ae (nms G) rule<G.length
   rotate_left
   ·rw[if_neg hidx] at hs4
    simp -dsimp only[go_sem,af hP,aa hP,af hP3,aa hP3,g1,ab R.hs]
    refine ⟨_,h3,hs3,?_⟩
    simp -dsimp only[go_sem,Bool.not_true,af hP3,aa hP3,af hP4,aa hP4,g1,ab R.hs]
    refine ⟨_,h4,hs4,?_⟩
    simp -dsimp only[go_sem,show decide ((-1:Int)<0)=true from rfl,hr]
    refine ⟨hx04,.inl ⟨?_,rfl⟩⟩
    rintro ⟨⟨_,em,e2,e3⟩,_⟩
    unfold gB at e3
    rw[Bool.and_eq_true] at e3
    exact hidx (dcO e3.2)
   rw[if_pos hidx,Nat.zero_add] at hs4
   have hneg:decide (((ae (nms G) rule:Nat):Int)<0)=false:=dcF (by omega)
   obtain ⟨hfr,hnm⟩:=iz hrg
   have hrl:dv (nms G) G=true:=by
    have:=hrg
    rw[co,Bool.and_eq_true,Bool.and_eq_true] at this
    exact this.2
   have hok1:co G=true/\∃em,Found G em/\gB G em rule=true:=⟨hrg,em0,hF0,by unfold gB;rw[hfi,dcT hidx];rfl⟩
   have hx5:=Ext.new h4 (ak.cells { c:=(List.replicate G.length false).map .bool,e:=4,fam:=0,base:=0,grown:=false })
   have htb:=an hb4 4 ((List.replicate G.length false).map .bool)
   have hb5:=Nat.le_succ_of_le (m:=h4.next) hb4
   have hP5:=aj hx5 hP4
   obtain ⟨_,h6,hs6,hx6,⟨ob,s6⟩,hR6,rfl,_,_,_⟩:=oE R (ew hrl) (tb:=h4.next) _ _ (jT rule) (lSs _) _ _ (List.replicate G.length false) (hx5.rom.trans hrom4) hb5 (oJ r rule) (jf (by rw[hnl];exact hidx)) htb (by simp) (lRf _)
   have hx7:Ext h4 h6:=(hx5.toS.trans hx6).ext (fun b hb c=>absurd (show b=h4.next from c) (by omega))
   have hx07:=hx04.trans hx7
   have hb6:h6.base<=h6.next:=by rw[hx07.base];exact lTr hb hx07.next
   have hP6:=aj hx7 hP4
   simp -dsimp only[go_sem,af hP,aa hP,af hP3,aa hP3,g1,ab R.hs]
   refine ⟨_,h3,hs3,?_⟩
   simp -dsimp only[go_sem,Bool.not_true,af hP3,aa hP3,af hP4,aa hP4,g1,ab R.hs]
   refine ⟨_,h4,hs4,?_⟩
   simp -dsimp only[go_sem,hneg,bu,af hP4,aa hP4,af hP5,aa hP5,g1,ab R.hs,jS G.length G.length (lRf _) R.hb,cl]
   refine ⟨_,h6,hs6,?_⟩
   cases ob with
   | false =>
     simp -dsimp only[go_sem,Bool.not_false,hr]
     refine ⟨hx07,.inl ⟨?_,rfl⟩⟩
     rintro ⟨_,s7,hR7⟩
     have:=hR6.det hR7
     injection this with this
     cases this
   | true =>
     have hok:okM G rule:=⟨hok1,s6,hR6⟩
     simp -dsimp only[go_sem,Bool.not_true,g2]
     by_cases hneg2:most<0
     ·have k2:decide (most<0)=true:=dcT hneg2
      simp -dsimp only[go_sem,k2,hr]
      exact ⟨hx07,.inr (.inl ⟨hok,hneg2,rfl⟩)⟩
     have k2:decide (most<0)=false:=dcF hneg2
     obtain ⟨n,rfl⟩:∃n:Nat,most=(n:Int):=⟨most.toNat,by omega⟩
     have hx8:=Ext.new h6 (ak.cells { c:=List.replicate G.length (.slice none 0 0),e:=60,fam:=0,base:=0,grown:=false })
     have hmb:=an hb6 60 (List.replicate G.length (.slice none 0 0))
     have hb8:=Nat.le_succ_of_le (m:=h6.next) hb6
     have hP8:=aj hx8 hP6
     have hx08:=hx07.trans hx8
     have hMd:MadeAt (h6.newH (ak.cells { c:=List.replicate G.length (.slice none 0 0),e:=60,fam:=0,base:=0,grown:=false })) h6.next (List.replicate G.length []):=⟨_,hmb,LLVs.nils _⟩
     have hall:∀m∈List.replicate G.length ([]:List Tx),m=[]:=fun m hm=>(List.mem_replicate.1 hm).2
     have hget:∀(j:Nat) (m:List Tx),(List.replicate G.length ([]:List Tx))[j]? = some m->m=[]:=fun j m hm=>hall m (mOg hm)
     have hgm:h.next≠h6.next:=by
      have:=hx7.next
      have:=hx4.next
      have:=hx3.next
      omega
     simp -dsimp only[go_sem,k2,aa hP6,af hP6,DG G.length G.length (lRf _) R.hb,oK]
     refine uD (most:=n) (cap:=cap) (x1:=.string rule) (x8:=.slice none 0 0) (x9:=.slice none 0 0) (x10:=.slice none 0 0) (made0:=List.replicate G.length []) R (ew hrl) hcap1 hcap (by omega) hgm (by simp -dsimp only[go_sem,hn]) (hx08.rom.trans hrom) hb8 hMd ⟨fun m hm=>by rw[hall m hm];exact List.Pairwise.nil,fun m hm=>by rw[hall m hm];exact ⟨lZr _,fun z hz=>by cases hz⟩,fun i m hm z hz=>by rw[hget i m hm] at hz;cases hz⟩ (by simp) (fun j _=>by
      cases hj:(List.replicate G.length ([]:List Tx))[j]? with
      | none=>exact .inr rfl
      | some m=>exact .inl (by rw[hget j m hj])) hP8 (by simp -dsimp only[go_sem,g1]) (by simp -dsimp only[go_sem,g2]) (by simp -dsimp only[go_sem,g3]) (by simp -dsimp only[go_sem]) (by simp -dsimp only[go_sem]) (by simp -dsimp only[go_sem]) (fun a1 h9 made hn1 hx9 hM9 hF9 q1 q4 q11 => ?_) (fun a1 h9 hn1 hx9 q8 q9 q10 => ?_)
     ·have hx10:Ext h h9:=(hx08.toS.trans hx9).ext (fun b hb c=>by
       have:=hx07.next
       have c:b=h6.next:=c
       omega)
      have hP9:=aJ hx9 hP8 hgm
      have hb9:h9.base<=h9.next:=by rw[hx10.base];exact lTr hb hx10.next
      simp -dsimp only[go_sem,q1,q4,q11,af hP9]
      obtain ⟨_,h10,hs10,rfl,hx11⟩:=jd R rule h9 (hx10.rom.trans hrom) hb9
      rw[dZ,hnl,if_pos hidx,Nat.zero_add] at hs10
      refine ⟨_,h10,hs10,?_⟩
      obtain ⟨vs,hv1,hv2,hv3⟩:=(hM9.ext hx11).len
      have hlm:ae (nms G) rule<made.length:=by rw[hF9.len];exact hidx
      have hmi:made[ae (nms G) rule]? = some made[ae (nms G) rule]:=gEl hlm
      obtain ⟨wi,hw1,hw2⟩:=hv2.get _ _ hmi
      have ld:h10.load ⟨h6.next,ae (nms G) rule,none⟩=some wi:=by rw[aa hv1,hw1]
      simp -dsimp only[go_sem,q11,vp hidx,Nat.zero_add,Nat.mul_one,ld,hr]
      exact ⟨hx10.trans hx11,.inr (.inr (.inr ⟨hok,n,made,_,wi,rfl,hF9,hmi,hw2,rfl⟩))⟩
     ·have hx10:Ext h h9:=(hx08.toS.trans hx9).ext (fun b hb c=>by
       have:=hx07.next
       have c:b=h6.next:=c
       omega)
      simp -dsimp only[go_sem,q8,q9,q10,hr]
      exact ⟨hx10,.inr (.inr (.inl ⟨hok,rfl⟩))⟩
end
end Go.Ev.Z24
end
section
namespace Go.Ev.Z24
section
open Go.RowKit Go.Proofs
end
end Go.Ev.Z24
end
section
namespace Go.Ev
open Go.RowKit Go.Sort Go.Proofs
section
variable {P:Program} {ρ:Rho} {N:Bs} {h:Hp} {w:World}
end
section
variable {P:Program} {ρ:Rho} {N:Bs} {h:Hp} {w:World}
structure qZ (P:Program) (f g:FuncId):Prop where
 fn:∃fn c,P.funcs[f]? = some fn/\fn.body=some c/\(fn.name == "runtime.NumGoroutine")=false
 full:∀(n:Nat) (enc:Fin (n+1)->Value) (cf:Fin (n+1)->Fin (n+1)->Int) (blk off cap:Nat) (d:Array (Fin (n+1))) (w:World),OneCell enc->SWO (ltOf cf)->CmpLays1 P g #[] enc cf blk off d.size w->Holds enc w blk off d->blk<w.heap.size->d.size<4611686018427387904 ->
  Calls P f #[.slice (some ⟨blk,off,none⟩) d.size cap,.func (.func g) #[] #[]] w fun e w'=>e=.returned (.tuple #[])/\∃m os,w'=sortWorld enc w blk off m (pdq (ltOf cf) d 0 d.size (Lib.bitLen d.size) true true) os
 nil:∀(p:Option Addr) (cap:Nat) (fv:Value) (w:World),Calls P f #[.slice p 0 cap,fv] w fun e w'=>e=.returned (.tuple #[])/\w'=w
def cr (n:Nat) (cf:Fin (n+1)->Fin (n+1)->Int):List (Fin (n+1)):=(pdq (ltOf cf) (Array.ofFn id) 0 (n+1) (Lib.bitLen (n+1)) true true).toList
theorem jK {n:Nat} {cf:Fin (n+1)->Fin (n+1)->Int} (hO:SWO (ltOf cf)):(cr n cf).length=n+1/\(cr n cf).Perm (List.ofFn id)/\(cr n cf).Pairwise fun x y=>ltOf cf y x=false:=by
 have hsz:(Array.ofFn (n:=n+1) id).size=n+1:=Array.size_ofFn
 have h:=pdq_sorts (ltOf cf) hO (Array.ofFn (n:=n+1) id) 0 (n+1) (Lib.bitLen (n+1)) true true (lZr _) (by rw[hsz];exact lRf _) (Or.inl rfl)
 obtain ⟨⟨h1,_,h3⟩,h4⟩:=h
 rw[hsz] at h1
 have hl:(cr n cf).length=n+1:=by unfold cr;rw[Array.length_toList];exact h1
 refine ⟨hl,?_,?_⟩
 ·have e1:∀A:Array (Fin (n+1)),A.size=n+1->(A.extract 0 (n+1))=A:=fun A hA=>by
   have h:=Array.extract_size (xs:=A)
   rw[hA] at h
   exact h
  rw[e1 _ h1,e1 _ hsz] at h3
  unfold cr
  rw[Array.toList_ofFn] at h3
  exact h3
 ·rw[List.pairwise_iff_getElem]
  intro i j hi hj hij
  rw[hl] at hi hj
  have:=h4 i j (lZr _) hij hj
  rw[getElem!_pos _ j (by omega),getElem!_pos _ i (by omega)] at this
  have e:∀(k:Nat) (hk:k<(cr n cf).length) (hk2:k<(pdq (ltOf cf) (Array.ofFn (n:=n+1) id) 0 (n+1) (Lib.bitLen (n+1)) true true).size),(cr n cf)[k]'hk=(pdq (ltOf cf) (Array.ofFn (n:=n+1) id) 0 (n+1) (Lib.bitLen (n+1)) true true)[k]'hk2:=fun k hk hk2=>Array.getElem_toList _
  rw[e j _ (by omega),e i _ (by omega)]
  exact this
theorem wK {α:Type} [Inhabited α] {enc:α->Value} {arr:Array Value} {o:Nat} {d:List α} (hd:o+d.length<=arr.size):over arr o (d.map enc)=putCells enc o d.toArray arr:=by
 apply Array.ext_getElem?
 intro j
 rw[fQ _ _ _ (by rw[List.length_map];exact hd)]
 unfold putCells
 rw[Array.getElem?_mapIdx]
 simp only[List.length_map,List.size_toArray]
 by_cases hj:o<=j/\j<o+d.length
 ·rw[if_pos hj,Array.getElem?_eq_getElem (show j<arr.size by omega)]
  have hlt:j - o<d.length:=by omega
  simp[hj,gEl hlt,hlt]
 ·rw[if_neg hj]
  cases ha:arr[j]? with
  | none=>simp
  | some v=>simp[hj]
theorem sp {α:Type} {f g:α->Value} (hfg:∀x,VR ρ (f x) (g x)):∀l:List α,VRs ρ (l.map f) (l.map g)
 | []=>.nil
 | x::l=>.cons (hfg x) (sp hfg l)
def uh (P:Program) (g:FuncId) (h:Hp) (e:TypeId) {n:Nat} (vf:Fin (n+1)->Value) (cf:Fin (n+1)->Fin (n+1)->Int):Prop :=
 ∀(ρ:Rho) (N:Bs) (w:World),HR P ρ N h w->∀ib:Nat,(∃arr fr,w.heap[ib]? = some (.cells arr e fr))->∀w2:World,(∀k,k≠ib->k<w.heap.size->w2.heap[k]? = w.heap[k]?) ->
  ∀(i j:Fin (n+1)) (x y:Value),VR ρ (vf i) x->VR ρ (vf j) y->Calls P g #[x,y] w2 fun e w'=>e=.returned (.int .i64 (cf i j))/\∃q os,w'=grow (w2.drewN q) os
theorem wL {f g:FuncId} (S:qZ P f g) {a:Addr} {r:Row} (hr:h.row a.block=some r) {n:Nat} {vf:Fin (n+1)->Value} (hsl:∀i,∃A m c,vf i=.slice A m c) (hat:∀j:Fin (n+1),r.c[a.off+j.val]? = some (vf j)) (hlen:n+1<4611686018427387904)
  {cf:Fin (n+1)->Fin (n+1)->Int} (hO:SWO (ltOf cf)) (hcmp:uh P g h r.e vf cf) {cap:Nat} {h1:Hp}
  (hst:h.stores a ((cr n cf).map vf)=some h1):Snd P f [.slice (some a) (n+1) cap,.func (.func g) #[] #[]] h (.tuple #[]) h1:=by
 refine ⟨S.fn,?_⟩
 intro ρ N w args' H hA
 cases hA with
 | @cons _ v' _ l' hv hl2 =>
 cases hl2 with
 | @cons _ g' _ l2 hg hl3 =>
 cases hl3 with
 | nil =>
 obtain rfl:g'=.func (.func g) #[] #[]:=by
  cases hg with
  | @func _ _ _ f' c' q1 q2 =>
    have e1:f'=#[]:=by
     apply Array.ext'
     generalize f'.toList=z at q1
     cases q1
     rfl
    have e2:c'=#[]:=by
     apply Array.ext'
     generalize c'.toList=z at q2
     cases q2
     rfl
    rw[e1,e2]
 obtain ⟨a',i,c',rfl,hAR⟩:∃a' i c',v'=.slice (some a') (n+1) c'/\AR ρ a a' i:=by
  generalize hn:n+1=nn at hv
  cases hv with
  | sl h1 h2=>exact ⟨_,_,_,rfl,h1⟩
  | slZero a a' h1=>omega
 have hi:=hAR.2.1
 obtain ⟨arr,e,fr,hw,hR,hget⟩:=H.row hr hi
 have he:e=r.e:=hR.1
 have hcl:a.off+(n+1)<=r.c.length:=by
  have h1:=hat ⟨n,lSs n⟩
  have h3:=(List.getElem?_eq_some_iff.1 h1).1
  simp only at h3
  omega
 have hsz:i.s+(a.off+(n+1))<=arr.size:=by have:=hR.2.1;omega
 have hblk:i.b<w.heap.size:=(Array.getElem?_eq_some_iff.1 hw).1
 have henc:∀j:Fin (n+1),∃v',arr[i.s+(a.off+j.val)]? = some v'/\VR ρ (vf j) v':=fun j=>hR.2.2.2.1 _ _ (hat j)
 generalize hE:(fun j:Fin (n+1)=>(arr[i.s+(a.off+j.val)]?).getD default)=enc
 have hEv:∀j,arr[i.s+(a.off+j.val)]? = some (enc j)/\VR ρ (vf j) (enc j):=by
  intro j
  obtain ⟨v',q1,q2⟩:=henc j
  have:enc j=v':=by
   rw[<-hE]
   show (arr[i.s+(a.off+j.val)]?).getD default=v'
   rw[q1]
   rfl
  rw[this]
  exact ⟨q1,q2⟩
 have hslE:∀j,∃A m c,enc j=.slice A m c:=by
  intro j
  obtain ⟨A,m,c,e0⟩:=hsl j
  have:=(hEv j).2
  rw[e0] at this
  generalize enc j=z at this
  cases this<;>exact ⟨_,_,_,rfl⟩
 have hone:OneCell enc:=fun j=>by
  obtain ⟨A,m,c,e0⟩:=hslE j
  rw[e0]
  rfl
 generalize hdd:(Array.ofFn (n:=n+1) id)=d
 have hds:d.size=n+1:=by rw[<-hdd];exact Array.size_ofFn
 have hdj:∀j (hj:j<n+1),d[j]! = ⟨j,hj⟩:=by
  intro j hj
  rw[getElem!_pos d j (by omega)]
  subst hdd
  simp
 have hH:Holds enc w i.b (i.s+a.off) d:=by
  intro j hj
  have hj':j<n+1:=by omega
  refine ⟨?_,?_⟩
  ·rw[hdj j hj']
   have e1:i.s+(a.off+j)=i.s+a.off+j:=by omega
   have:=(hEv ⟨j,hj'⟩).1
   simp only[e1] at this
   simp only[World.cell?,hw]
   simp[this]
  ·simp only[World.frozen?,hw]
   exact hR.2.2.2.2.1 _ (by omega)
 have ha':a'=⟨i.b,i.s+a.off,none⟩:=hAR.2.2
 subst ha'
 have hC:CmpLays1 P g #[] enc cf i.b (i.s+a.off) d.size w:=by
  intro m os dk hdk x y
  refine hcmp ρ N w H i.b ⟨arr,fr,by rw[hw,he]⟩ _ (fun k hk hlt => ?_) x y _ _ (hEv x).2 (hEv y).2
  unfold sortWorld
  rw[heap_grow_old _ _ (by
   show k<(putRow enc (Sort.ahead w m) i.b (i.s+a.off) dk).heap.size
   unfold putRow mapBlock Sort.ahead
   simpa using hlt)]
  unfold putRow mapBlock Sort.ahead
  simp only
  rw[Array.getElem?_modify,if_neg (fun e=>hk e.symm)]
 have hres:=S.full n enc cf i.b (i.s+a.off) c' d w hone hO hC hH hblk (by omega)
 rw[hds] at hres
 refine hres.mono ?_
 rintro en w2 ⟨rfl,m,os,rfl⟩
 have hpl:(pdq (ltOf cf) d 0 (n+1) (Lib.bitLen (n+1)) true true).toList=cr n cf:=by rw[<-hdd];rfl
 obtain ⟨hpn,_,_⟩:=jK hO
 have hmap:VRs ρ ((cr n cf).map vf) ((cr n cf).map enc):=sp (fun x=>(hEv x).2) _
 obtain ⟨w1,hrun,H1,B1⟩:=HR.stores (a:=a) (a':=⟨i.b,i.s+a.off,none⟩) H (.inr ⟨i,hAR⟩) hmap hst
 have honeL:((cr n cf).map enc).all oneCell=true:=by
  rw[List.all_map]
  refine List.all_eq_true.2 fun x _ => ?_
  obtain ⟨A,m,c,e0⟩:=hslE x
  show oneCell (enc x)=true
  rw[e0]
  rfl
 have hrun2:=eD (P:=P) (b:=i.b) (e:=e) (fr:=fr) (i.s+a.off) ((cr n cf).map enc) 0 w arr hw hR.2.2.2.2.1 (by rw[List.length_map,hpn];omega) honeL
 rw[hrun2] at hrun
 injection hrun with _ hw1
 have hheap:w1.heap=(putRow enc (Sort.ahead w m) i.b (i.s+a.off) (pdq (ltOf cf) d 0 (n+1) (Lib.bitLen (n+1)) true true)).heap:=by
  have e9:pdq (ltOf cf) d 0 (n+1) (Lib.bitLen (n+1)) true true=(cr n cf).toArray:=by rw[<-hpl]
  rw[<-hw1,e9]
  unfold World.putBlock putRow mapBlock Sort.ahead
  simp only
  apply Array.ext_getElem?
  intro k
  rw[Array.getElem?_setIfInBounds,Array.getElem?_modify]
  by_cases hk:i.b=k
  ·subst hk
   simp only[hblk,if_true,hw,Option.map_some,onCells,Nat.add_zero]
   rw[wK (by rw[hpn];omega)]
  ·simp[hk]
 have H2:=H1.drewn (w.drawn+m)
 have hb2:Below w1.heap.size { w1 with drawn:=w.drawn+m } (sortWorld enc w i.b (i.s+a.off) m (pdq (ltOf cf) d 0 (n+1) (Lib.bitLen (n+1)) true true) os):=by
  unfold sortWorld
  refine ⟨by rw[<-hw1];rfl,by rw[<-hw1];rfl,by rw[<-hw1];rfl,?_,fun k hk => ?_⟩
  ·rw[size_grow]
   show w1.heap.size<=_
   rw[hheap]
   exact Nat.le_add_right _ _
  ·show _=w1.heap[k]?
   rw[heap_grow_old _ _ (by rw[hheap] at hk;exact hk),hheap]
 refine ⟨ρ,.tuple #[],rfl,Rho.le_refl ρ,HR.wide H2 hb2,.tuple .nil,?_⟩
 have B2:Below N w { w1 with drawn:=w.drawn+m }:=⟨B1.os,B1.tape,B1.output,B1.size,B1.block⟩
 exact B2.trans (hb2.mono H2.base)
theorem oh {f g:FuncId} (S:qZ P f g) {A:Option Addr} {cap:Nat} {fv:Value}:Snd P f [.slice A 0 cap,fv] h (.tuple #[]) h:=by
 refine ⟨S.fn,?_⟩
 intro ρ N w args' H hA'
 cases hA' with
 | @cons _ v' _ l' hv hl =>
 cases hl with
 | @cons _ g' _ l2 hg hl3 =>
 cases hl3 with
 | nil =>
 cases hv with
 | _ =>
   refine (S.nil _ _ _ w).mono ?_
   rintro en w2 ⟨rfl,rfl⟩
   exact ⟨ρ,_,rfl,Rho.le_refl ρ,H,.tuple .nil,Below.refl _ _⟩
end
end Go.Ev
end
section
namespace Go.Ev.Z24
open Go.RowKit Go.Proofs Go.Shelf
theorem Bv (x:ByteArray) (w:World):Calls Tryz.prog 118 #[.string x] w fun e w'=>e=.returned (.bool false)/\w'=w:=by
 go_enter Tryz.func118,Tryz.ntmps118
 go_wp2
 go_ret
 exact ⟨by simp,rfl⟩
def kX (x y:ByteArray):Int:=if Op.bytesLess x.toList y.toList=true then -1 else if (!(Op.bytesLess x.toList y.toList||x.toList==y.toList))=true then 1 else 0
theorem Bw (x y:ByteArray) (w:World):(binOp .gtr 9 (.string x) (.string y)).run Tryz.prog w=.ok (.bool (!(Op.bytesLess x.toList y.toList||x.toList==y.toList))) w:=by
 first|rfl|simp[binOp,Op.stringOp,Tryz.underlying9,Sem.run_bind,al]
attribute [local go_sem] Bw
theorem Ck (x y:ByteArray) (w:World):Calls Tryz.prog 109 #[.string x,.string y] w fun e w'=>e=.returned (.int .i64 (kX x y))/\w'=w:=by
 have e7:∀args w,(callFunc 118 args).run Tryz.prog w=.ok (.enter 118 args) w:=enters_of Tryz.func118 (by kernel_rfl) rfl
 go_enter Tryz.func109,Tryz.ntmps109
 go_wp2_with (go_at_fn (118:FuncId);refine (Bv _ _).mono ?_;rintro e w' ⟨rfl,hw⟩;rw[hw])
 all_goals (go_ret;refine ⟨?_,rfl⟩;unfold kX;simp_all;done)
structure Asd (p:Prop):Prop where
 out:p
def TxW (w:World) (v:Value) (xs:Tx):Prop:=∃p c,v=.slice p xs.length c/\(xs≠[]->∃b o,p=some ⟨b,o,none⟩/\∀(i:Nat) (s:ByteArray),xs[i]? = some s->w.cell? ⟨b,o+i,none⟩=some (.string s))
def gj:Tx->Tx->Int
 | [],[]=>0
 | [],_::_ => -1
 | _::_,[]=>1
 | x::a,y::b=>if kX x y=0 then gj a b else kX x y
theorem uF {v u:Value} {xs ys:Tx} (w:World) (hx:TxW w v xs) (hy:TxW w u ys) (hxl:xs.length<=1000000) (hyl:ys.length<=1000000):Calls Tryz.prog 87 #[v,u] w fun e w'=>e=.returned (.int .i64 (gj xs ys))/\w'=w:=by
 have e9:∀args w,(callFunc 109 args).run Tryz.prog w=.ok (.enter 109 args) w:=enters_of Tryz.func109 (by kernel_rfl) rfl
 obtain ⟨p,c,rfl,hx⟩:=hx
 obtain ⟨q,d,rfl,hy⟩:=hy
 have hu34:=Tryz.underlying34
 have HX:=Asd.mk hx
 have HY:=Asd.mk hy
 clear hx hy
 go_enter Tryz.func87,Tryz.ntmps87
 go_wp2
 go_loopg [11] (xs.length+1) (fun kq v11 w'=>∃j:Nat,v11=.int .i64 (j:Int)/\Asd (j+kq=xs.length+1)/\Asd (j<=xs.length/\j<=ys.length)/\Asd (gj xs ys=gj (xs.drop j) (ys.drop j))/\w'=w)
 case atStart=>exact ⟨0,rfl,⟨by omega⟩,⟨by omega,by omega⟩,⟨rfl⟩,rfl⟩
 case round =>
  obtain ⟨j,rfl,HJ,HL,HG,hw⟩:=hrel
  subst hw
  cases gk with
  | zero=>exact absurd HJ.out (by have:=HL.out;omega)
  | succ k2 =>
    by_cases hlt:j<xs.length
    ·have c1:decide ((j:Int)<(xs.length:Int))=true:=dcT (by omega)
     have hp0:0<=(j:Int):=by omega
     have hp1:(j:Int)<(xs.length:Int):=by omega
     obtain ⟨b,o,rfl,hcx⟩:=HX.out (by intro e;rw[e] at hlt;exact absurd hlt (lNz _))
     have hcx:=hcx j _ (gEl hlt)
     by_cases hly:j<ys.length
     ·have c2:decide ((ys.length:Int)<=(j:Int))=false:=dcF (by omega)
      have hp3:(j:Int)<(ys.length:Int):=by omega
      obtain ⟨b2,o2,rfl,hcy⟩:=HY.out (by intro e;rw[e] at hly;exact absurd hly (lNz _))
      have hcy:=hcy j _ (gEl hly)
      have hd:gj xs ys=if kX xs[j] ys[j]=0 then gj (xs.drop (j+1)) (ys.drop (j+1)) else kX xs[j] ys[j]:=by
       rw[HG.out,List.drop_eq_getElem_cons hlt,List.drop_eq_getElem_cons hly]
       rfl
      have HD:=Asd.mk hd
      clear hd
      by_cases hz:kX xs[j] ys[j]=0
      ·have cz:(kX xs[j] ys[j] != 0)=false:=by rw[hz];rfl
       have HZ:=Asd.mk hz
       clear hz
       go_wp2_with (go_at_fn (109:FuncId);refine (Ck _ _ _).mono ?_;rintro e w' ⟨rfl,hw⟩;rw[hw])
       go_roundg k2
       case measure=>have:=HJ.out;omega
       case rel=>exact ⟨j+1,by simp,⟨by have:=HJ.out;omega⟩,⟨by omega,by omega⟩,⟨by rw[HD.out,if_pos HZ.out]⟩,rfl⟩
      ·have cz:(kX xs[j] ys[j] != 0)=true:=by simpa using hz
       have HZ:=Asd.mk hz
       clear hz
       go_wp2_with (go_at_fn (109:FuncId);refine (Ck _ _ _).mono ?_;rintro e w' ⟨rfl,hw⟩;rw[hw])
       go_ret
       refine ⟨?_,rfl⟩
       rw[HD.out,if_neg HZ.out]
       rfl
     ·have c2:decide ((ys.length:Int)<=(j:Int))=true:=dcT (by omega)
      have c3:decide (ys.length<=j)=true:=dcT (by omega)
      have hd:gj xs ys=1:=by
       have e:ys.drop j=[]:=List.drop_eq_nil_of_le (by omega)
       rw[HG.out,List.drop_eq_getElem_cons hlt,e]
       rfl
      go_wp2
      go_ret
      refine ⟨?_,rfl⟩
      rw[hd]
      rfl
    ·obtain rfl:j=xs.length:=by have:=HL.out;omega
     have c0:decide (((xs.length:Nat):Int)<(xs.length:Int))=false:=dcF (by omega)
     by_cases hly:xs.length<ys.length
     ·have c2:decide (xs.length<ys.length)=true:=dcT hly
      have hd:gj xs ys = -1:=by
       rw[HG.out,List.drop_length,List.drop_eq_getElem_cons hly]
       rfl
      go_wp2
      go_ret
      refine ⟨?_,rfl⟩
      rw[hd]
      rfl
     ·have c2:decide (xs.length<ys.length)=false:=dcF hly
      have hd:gj xs ys=0:=by
       have e:ys.drop xs.length=[]:=List.drop_eq_nil_of_le (by omega)
       rw[HG.out,List.drop_length,e]
       rfl
      go_wp2
      go_ret
      refine ⟨?_,rfl⟩
      rw[hd]
      rfl
theorem pW {v u:Value} {xs ys:Tx} (w:World) (hx:TxW w v xs) (hy:TxW w u ys) (hxl:xs.length<=1000000) (hyl:ys.length<=1000000):Calls Tryz.prog 69 #[v,u] w fun e w'=>e=.returned (.int .i64 (gj xs ys))/\w'=w:=by
 have e9:∀args w,(callFunc 87 args).run Tryz.prog w=.ok (.enter 87 args) w:=enters_of Tryz.func87 (by kernel_rfl) rfl
 have hc:=uF w hx hy hxl hyl
 obtain ⟨p,c,rfl,hx⟩:=hx
 obtain ⟨q,d,rfl,hy⟩:=hy
 clear hx hy
 go_enter Tryz.func69,Tryz.ntmps69
 go_wp2_with (go_at_fn (87:FuncId);refine hc.mono ?_;rintro e w' ⟨rfl,hw⟩;rw[hw])
 go_ret
 exact ⟨rfl,rfl⟩
end Go.Ev.Z24
end
section
namespace Go.Proofs
open Go.Shelf
def Tryz.laysSlF6_f68_ren:Go.Shelf.Ren:=⟨fun|6=>68|15=>86|14=>85|28=>107|29=>108|20=>99|21=>100|22=>101|23=>102|24=>103|25=>104|26=>105|27=>106|46=>113|47=>114|48=>115|49=>116|50=>117|57=>125|n=>n,fun|22=>27|24=>34|25=>139|3=>3|39=>155|0=>0|53=>168|55=>170|4=>4|46=>162|45=>161|50=>114|5=>5|9=>9|66=>173|70=>177|76=>179|77=>180|n=>n,fun|n=>n⟩
theorem Tryz.laysSlF6_f68:Go.Proofs.SlLaysF.n6 Tryz.prog Tryz.laysSlF6_f68_ren:={
 mixed:=by kernel_rfl
 f6:=⟨Tryz.f68.name,by decide,Tryz.func68.trans (congrArg some (by kernel_rfl))⟩
 f14:=⟨Tryz.f85.name,by decide,Tryz.func85.trans (congrArg some (by kernel_rfl))⟩
 f15:=Tryz.func86.trans (congrArg some (by kernel_rfl))
 f20:=⟨Tryz.f99.name,by decide,Tryz.func99.trans (congrArg some (by kernel_rfl))⟩
 f21:=⟨Tryz.f100.name,by decide,Tryz.func100.trans (congrArg some (by kernel_rfl))⟩
 f22:=⟨Tryz.f101.name,by decide,Tryz.func101.trans (congrArg some (by kernel_rfl))⟩
 f23:=⟨Tryz.f102.name,by decide,Tryz.func102.trans (congrArg some (by kernel_rfl))⟩
 f24:=⟨Tryz.f103.name,by decide,Tryz.func103.trans (congrArg some (by kernel_rfl))⟩
 f25:=⟨Tryz.f104.name,by decide,Tryz.func104.trans (congrArg some (by kernel_rfl))⟩
 f26:=⟨Tryz.f105.name,by decide,Tryz.func105.trans (congrArg some (by kernel_rfl))⟩
 f27:=⟨Tryz.f106.name,by decide,Tryz.func106.trans (congrArg some (by kernel_rfl))⟩
 f28:=Tryz.func107.trans (congrArg some (by kernel_rfl))
 f29:=Tryz.func108.trans (congrArg some (by kernel_rfl))
 f46:=⟨Tryz.f113.name,by decide,Tryz.func113.trans (congrArg some (by kernel_rfl))⟩
 f47:=Tryz.func114.trans (congrArg some (by kernel_rfl))
 f48:=Tryz.func115.trans (congrArg some (by kernel_rfl))
 f49:=⟨Tryz.f116.name,by decide,Tryz.func116.trans (congrArg some (by kernel_rfl))⟩
 f50:=⟨Tryz.f117.name,by decide,Tryz.func117.trans (congrArg some (by kernel_rfl))⟩
 f57:=⟨Tryz.f125.name,by decide,Tryz.func125.trans (congrArg some (by kernel_rfl))⟩
 t0:=Tryz.underlying0
 a0:=Tryz.isAgg0
 z0:=Tryz.sizeOf0
 v0:=Tryz.zeroValue0
 t3:=Tryz.underlying3
 a3:=Tryz.isAgg3
 z3:=Tryz.sizeOf3
 v3:=Tryz.zeroValue3
 t4:=Tryz.underlying4
 a4:=Tryz.isAgg4
 z4:=Tryz.sizeOf4
 v4:=Tryz.zeroValue4
 t5:=Tryz.underlying5
 a5:=Tryz.isAgg5
 z5:=Tryz.sizeOf5
 v5:=Tryz.zeroValue5
 t9:=Tryz.underlying9
 a9:=Tryz.isAgg9
 z9:=Tryz.sizeOf9
 v9:=Tryz.zeroValue9
 t22:=Tryz.underlying27
 a22:=Tryz.isAgg27
 z22:=Tryz.sizeOf27
 v22:=Tryz.zeroValue27
 a24:=Tryz.isAgg34
 z24:=Tryz.sizeOf34
 t25:=Tryz.underlying139
 a25:=Tryz.isAgg139
 z25:=Tryz.sizeOf139
 v25:=Tryz.zeroValue139
 t39:=Tryz.underlying155
 a39:=Tryz.isAgg155
 z39:=Tryz.sizeOf155
 v39:=Tryz.zeroValue155
 t45:=Tryz.underlying161
 a45:=Tryz.isAgg161
 z45:=Tryz.sizeOf161
 v45:=Tryz.zeroValue161
 t46:=Tryz.underlying162
 a46:=Tryz.isAgg162
 z46:=Tryz.sizeOf162
 v46:=Tryz.zeroValue162
 t50:=Tryz.underlying114
 a50:=Tryz.isAgg114
 z50:=Tryz.sizeOf114
 v50:=Tryz.zeroValue114
 t53:=Tryz.underlying168
 a53:=Tryz.isAgg168
 z53:=Tryz.sizeOf168
 v53:=Tryz.zeroValue168
 t55:=Tryz.underlying170
 a55:=Tryz.isAgg170
 z55:=Tryz.sizeOf170
 v55:=Tryz.zeroValue170
 t66:=Tryz.underlying173
 a66:=Tryz.isAgg173
 z66:=Tryz.sizeOf173
 v66:=Tryz.zeroValue173
 t70:=Tryz.underlying177
 a70:=Tryz.isAgg177
 z70:=Tryz.sizeOf177
 v70:=Tryz.zeroValue177
 t76:=Tryz.underlying179
 a76:=Tryz.isAgg179
 z76:=Tryz.sizeOf179
 v76:=Tryz.zeroValue179
 t77:=Tryz.underlying180
 a77:=Tryz.isAgg180
 z77:=Tryz.sizeOf180
 v77:=Tryz.zeroValue180 }
open Go.RowKit Go.Lib Go.Sort in
theorem Tryz.slices_SortFunc_eq {α:Type} [Inhabited α] (enc:α->Value) (h1:OneCell enc) (cf:α->α->Int) (hO:SWO (ltOf cf)) (g:Nat) (cb:Array Value) (blk off cap:Nat) (d:Array α) (w:World) (eg:∀args w,(callFunc g args).run Tryz.prog w=.ok (.enter g args) w) (hcmp:CmpLays1 Tryz.prog g cb enc cf blk off d.size w) (hH:Holds enc w blk off d) (hblk:blk<w.heap.size) (hsz:d.size<4611686018427387904) :
 Calls Tryz.prog 68 #[.slice (some ⟨blk,off,none⟩) d.size cap,.func (.func g) #[] cb] w fun e w' =>
  e=.returned (.tuple #[])/\∃n os,w'=sortWorld enc w blk off n (pdq (ltOf cf) d 0 d.size (Lib.bitLen d.size) true true) os:=Any.slices_SortFunc_eq Tryz.laysSlF6_f68 enc h1 cf hO g cb blk off cap d w eg hcmp hH hblk hsz
def Tryz.laysSlF06_f68_ren:Go.Shelf.Ren:=⟨fun|6=>68|15=>86|14=>85|28=>107|29=>108|20=>99|21=>100|22=>101|23=>102|24=>103|25=>104|26=>105|27=>106|46=>113|47=>114|48=>115|49=>116|50=>117|57=>125|n=>n,fun|22=>27|24=>34|25=>139|3=>3|39=>155|0=>0|53=>168|55=>170|4=>4|46=>162|45=>161|50=>114|5=>5|9=>9|66=>173|70=>177|76=>179|77=>180|n=>n,fun|n=>n⟩
theorem Tryz.laysSlF06_f68:Go.Proofs.SlLaysF0.n6 Tryz.prog Tryz.laysSlF06_f68_ren:={
 mixed:=by kernel_rfl
 f6:=⟨Tryz.f68.name,by decide,Tryz.func68.trans (congrArg some (by kernel_rfl))⟩
 f14:=⟨Tryz.f85.name,by decide,Tryz.func85.trans (congrArg some (by kernel_rfl))⟩
 f15:=Tryz.func86.trans (congrArg some (by kernel_rfl))
 f20:=⟨Tryz.f99.name,by decide,Tryz.func99.trans (congrArg some (by kernel_rfl))⟩
 f21:=⟨Tryz.f100.name,by decide,Tryz.func100.trans (congrArg some (by kernel_rfl))⟩
 f22:=⟨Tryz.f101.name,by decide,Tryz.func101.trans (congrArg some (by kernel_rfl))⟩
 f23:=⟨Tryz.f102.name,by decide,Tryz.func102.trans (congrArg some (by kernel_rfl))⟩
 f24:=⟨Tryz.f103.name,by decide,Tryz.func103.trans (congrArg some (by kernel_rfl))⟩
 f25:=⟨Tryz.f104.name,by decide,Tryz.func104.trans (congrArg some (by kernel_rfl))⟩
 f26:=⟨Tryz.f105.name,by decide,Tryz.func105.trans (congrArg some (by kernel_rfl))⟩
 f27:=⟨Tryz.f106.name,by decide,Tryz.func106.trans (congrArg some (by kernel_rfl))⟩
 f28:=Tryz.func107.trans (congrArg some (by kernel_rfl))
 f29:=Tryz.func108.trans (congrArg some (by kernel_rfl))
 f46:=⟨Tryz.f113.name,by decide,Tryz.func113.trans (congrArg some (by kernel_rfl))⟩
 f47:=Tryz.func114.trans (congrArg some (by kernel_rfl))
 f48:=Tryz.func115.trans (congrArg some (by kernel_rfl))
 f49:=⟨Tryz.f116.name,by decide,Tryz.func116.trans (congrArg some (by kernel_rfl))⟩
 f50:=⟨Tryz.f117.name,by decide,Tryz.func117.trans (congrArg some (by kernel_rfl))⟩
 f57:=⟨Tryz.f125.name,by decide,Tryz.func125.trans (congrArg some (by kernel_rfl))⟩
 t0:=Tryz.underlying0
 a0:=Tryz.isAgg0
 z0:=Tryz.sizeOf0
 v0:=Tryz.zeroValue0
 t3:=Tryz.underlying3
 a3:=Tryz.isAgg3
 z3:=Tryz.sizeOf3
 v3:=Tryz.zeroValue3
 t4:=Tryz.underlying4
 a4:=Tryz.isAgg4
 z4:=Tryz.sizeOf4
 v4:=Tryz.zeroValue4
 t5:=Tryz.underlying5
 a5:=Tryz.isAgg5
 z5:=Tryz.sizeOf5
 v5:=Tryz.zeroValue5
 t9:=Tryz.underlying9
 a9:=Tryz.isAgg9
 z9:=Tryz.sizeOf9
 v9:=Tryz.zeroValue9
 t22:=Tryz.underlying27
 a22:=Tryz.isAgg27
 z22:=Tryz.sizeOf27
 v22:=Tryz.zeroValue27
 t25:=Tryz.underlying139
 a25:=Tryz.isAgg139
 z25:=Tryz.sizeOf139
 v25:=Tryz.zeroValue139
 t39:=Tryz.underlying155
 a39:=Tryz.isAgg155
 z39:=Tryz.sizeOf155
 v39:=Tryz.zeroValue155
 t45:=Tryz.underlying161
 a45:=Tryz.isAgg161
 z45:=Tryz.sizeOf161
 v45:=Tryz.zeroValue161
 t46:=Tryz.underlying162
 a46:=Tryz.isAgg162
 z46:=Tryz.sizeOf162
 v46:=Tryz.zeroValue162
 t50:=Tryz.underlying114
 a50:=Tryz.isAgg114
 z50:=Tryz.sizeOf114
 v50:=Tryz.zeroValue114
 t53:=Tryz.underlying168
 a53:=Tryz.isAgg168
 z53:=Tryz.sizeOf168
 v53:=Tryz.zeroValue168
 t55:=Tryz.underlying170
 a55:=Tryz.isAgg170
 z55:=Tryz.sizeOf170
 v55:=Tryz.zeroValue170
 t66:=Tryz.underlying173
 a66:=Tryz.isAgg173
 z66:=Tryz.sizeOf173
 v66:=Tryz.zeroValue173
 t70:=Tryz.underlying177
 a70:=Tryz.isAgg177
 z70:=Tryz.sizeOf177
 v70:=Tryz.zeroValue177
 t76:=Tryz.underlying179
 a76:=Tryz.isAgg179
 z76:=Tryz.sizeOf179
 v76:=Tryz.zeroValue179
 t77:=Tryz.underlying180
 a77:=Tryz.isAgg180
 z77:=Tryz.sizeOf180
 v77:=Tryz.zeroValue180 }
open Go.RowKit Go.Lib Go.Sort in
theorem Tryz.slices_SortFunc_none {α:Type} [Inhabited α] (p:Option Addr) (cap:Nat) (fv:Value) (w:World) :
 Calls Tryz.prog 68 #[.slice p 0 cap,fv] w fun e w'=>e=.returned (.tuple #[])/\w'=w:=AnyF.slices_SortFunc_none Tryz.laysSlF06_f68 p cap fv w
end Go.Proofs
namespace Go.Ev.Z24
open Go.RowKit Go.Proofs Go.Shelf Go.Sort
theorem uW:qZ Tryz.prog 68 69:=⟨⟨_,_,Tryz.func68,rfl,rfl⟩,
 fun n enc cf blk off cap d w h1 hO hC hH hb hs=>Tryz.slices_SortFunc_eq enc h1 cf hO 69 #[] blk off cap d w (enters_of Tryz.func69 (by kernel_rfl) rfl) hC hH hb hs,fun p cap fv w=>Tryz.slices_SortFunc_none (α:=Nat) p cap fv w⟩
variable {h:Hp}
theorem Ac {ρ:Rho} {N:Bs} {w w2:World} {v x:Value} {ss:Tx} {ib:Nat} (H:HR Tryz.prog ρ N h w) (k:TxV h v ss) (hx:VR ρ v x) (hib:∃arr fr,w.heap[ib]? = some (.cells arr 34 fr)) (hw:∀k,k≠ib->k<w.heap.size->w2.heap[k]? = w.heap[k]?):TxW w2 x ss:=by
 rcases k with ⟨e,rfl⟩|⟨b,f,rfl,hr,_,_⟩
 ·have e':ss=[]:=List.map_eq_nil_iff.1 e
  subst e'
  cases hx with
  | slNil=>exact ⟨none,0,rfl,fun c=>absurd rfl c⟩
 ·rw[cp] at hx
  by_cases hz:ss=[]
  ·subst hz
   generalize hn:([]:Tx).length=n at hx
   cases hx with
   | sl h1 h2=>exact ⟨_,_,by rw[hn],fun c=>absurd rfl c⟩
   | slZero=>exact ⟨_,_,by rfl,fun c=>absurd rfl c⟩
  ·have hpos:0<ss.length:=List.length_pos_iff.2 hz
   obtain ⟨a',i,c',rfl,hAR⟩:∃a' i c',x=.slice (some a') ss.length c'/\AR ρ ⟨b,0,none⟩ a' i:=by
    generalize ss.length=nn at hx hpos
    cases hx with
    | sl h1 h2=>exact ⟨_,_,_,rfl,h1⟩
    | slZero a a' h1=>omega
   obtain ⟨bs',g,hrow⟩:=hr.row
   obtain ⟨arr,e,fr,hwb,hR,_⟩:=H.row hrow hAR.2.1
   have he:e=9:=hR.1
   have hblk:i.b<w.heap.size:=(Array.getElem?_eq_some_iff.1 hwb).1
   have hne:i.b≠ib:=by
    intro c
    obtain ⟨arr2,fr2,hib⟩:=hib
    rw[<-c,hwb,he] at hib
    injection hib with hib
    injection hib with _ h9 _
    exact absurd h9 (by decide)
   have ha:a'=⟨i.b,i.s+0,none⟩:=hAR.2.2
   refine ⟨some a',c',rfl,fun _=>⟨i.b,i.s+0,by rw[ha],fun j s hj => ?_⟩⟩
   have hcj:(dw ss)[j]? = some (.string s):=by
    unfold dw
    rw[List.getElem?_map,hj]
    rfl
   obtain ⟨v',q1,q2⟩:=hR.2.2.2.1 j _ hcj
   cases q2 with
   | string =>
   simp only[World.cell?,hw i.b hne hblk,hwb,Nat.add_zero]
   simp[q1]
end Go.Ev.Z24
end
section
namespace Go.Ev.Z24
open Go.RowKit Go.Proofs
section
variable {h h1 h2:Hp} {e:TypeId} {B F B' F':Nat->Prop}
structure RowTo (h:Hp) (b f:Nat) (h1:Hp):Prop where
 base:h1.base=h.base
 ro:h1.ro=h.ro
 next:h1.next=h.next
 nfam:h1.nfam=h.nfam
 objs:∀y,y≠b->h1.objs.get y=h.objs.get y
 fams:∀q,¬(q=f/\f≠0)->h1.fams.get q=h.fams.get q
theorem RowTo.refl (h:Hp) (b f:Nat):RowTo h b f h:=⟨rfl,rfl,rfl,rfl,fun _ _=>rfl,fun _ _=>rfl⟩
theorem RowTo.trans {b f:Nat} (x:RowTo h b f h1) (y:RowTo h1 b f h2):RowTo h b f h2 :=
 ⟨y.base.trans x.base,y.ro.trans x.ro,y.next.trans x.next,y.nfam.trans x.nfam,fun q hq=>(y.objs q hq).trans (x.objs q hq),fun q hq=>(y.fams q hq).trans (x.fams q hq)⟩
theorem RowTo.ext {b f:Nat} (x:RowTo h b f h1) {S:Nat->Prop} {h0:Hp} (y:ExtS S h0 h) (hb:h0.next<=b) (hf:f≠0->h0.nfam<=f):ExtS S h0 h1 :=
 ⟨x.base.trans y.base,x.ro.trans y.ro,by rw[x.next];exact y.next,fun q hq hs=>by rw[x.objs q (by omega)];exact y.objs q hq hs,by rw[x.nfam];exact y.nfam,fun q hq=>by
  rw[x.fams q (fun c=>by have:=hf c.2;omega)]
  exact y.fams q hq⟩
structure KeepE (B F:Nat->Prop) (h h1:Hp):Prop where
 base:h1.base=h.base
 ro:h1.ro=h.ro
 next:h.next<=h1.next
 nfam:h.nfam<=h1.nfam
 rows:∀e b cs f,bX e h b cs f->¬B b->¬F f->bX e h1 b cs f
theorem KeepE.trans (x:KeepE B F h h1) (y:KeepE B F h1 h2):KeepE B F h h2 :=
 ⟨y.base.trans x.base,y.ro.trans x.ro,lTr x.next y.next,lTr x.nfam y.nfam,fun e b cs f k hb hf=>y.rows e b cs f (x.rows e b cs f k hb hf) hb hf⟩
theorem CZ {S:Nat->Prop} (x:ExtS S h h1):KeepE S (fun _=>False) h h1:=⟨x.base,x.ro,x.next,x.nfam,fun e b cs f k hb _=>bR x k hb⟩
theorem bT (x:Ext h h1):KeepE (fun _=>False) (fun _=>False) h h1:=CZ x.toS
theorem KeepE.wide (x:KeepE B F h h1) (hB:∀b,b<h.next->B b->B' b) (hF:∀f,F f->F' f):KeepE B' F' h h1 :=
 ⟨x.base,x.ro,x.next,x.nfam,fun e b cs f k hb hf=>x.rows e b cs f k (fun c=>hb (hB b k.lt c)) (fun c=>hf (hF f c))⟩
theorem iZ {b:Nat} {r:Row} (hr:h.row b=some r) (ho:h1.objs.get b=h.objs.get b) (hf:r.fam≠0->h1.fams.get r.fam=h.fams.get r.fam):h1.row b=some r:=by
 unfold Hp.row at hr ⊢
 rw[ho]
 cases hg:h.objs.get b with
 | none=>rw[hg] at hr;cases hr
 | some ob =>
   rw[hg] at hr
   cases ob with
   | cells q =>
     simp only at hr ⊢
     cases hq:q.fam with
     | zero=>rw[hq] at hr;exact hr
     | succ n =>
       rw[hq] at hr
       simp only at hr ⊢
       have hrf:q=r:=by
        split at hr
        ·split at hr
         ·injection hr
         ·cases hr
        ·cases hr
       have:=hf (by rw[<-hrf,hq];exact Nat.succ_ne_zero n)
       rw[<-hrf,hq] at this
       rw[this]
       exact hr
   | map es k=>cases hr
   | sIter s p=>cases hr
   | mIter a b c d=>cases hr
def DH (f:Nat):Nat->Prop:=fun q=>q=f/\q≠0
theorem RowTo.keep {b f:Nat} (x:RowTo h b f h1):KeepE (aR b) (DH f) h h1:=by
 refine ⟨x.base,x.ro,Nat.le_of_eq x.next.symm,Nat.le_of_eq x.nfam.symm,fun e b' cs f' k hb hf => ?_⟩
 obtain ⟨bs,g,hr⟩:=k.row
 exact ⟨by rw[x.base];exact k.lo,by rw[x.next];exact k.lt,⟨bs,g,iZ hr (x.objs b' hb) (fun h0=>x.fams f' (fun c=>hf ⟨c.1,h0⟩))⟩,fun c=>by rw[x.nfam];exact k.fl c⟩
theorem oN:∀(c:List Value) (o:Nat) (c':List Value),bC c o []=some c'->c'=c
 | c,0,c',h=>by
   cases c<;>(simp only[bC,Option.some.injEq] at h;exact h.symm)
 | [],o+1,c',h=>by simp[bC] at h
 | x::c,o+1,c',h=>by
   simp only[bC] at h
   cases hs:bC c o [] with
   | none=>rw[hs] at h;cases h
   | some r =>
     rw[hs] at h
     injection h with h
     rw[<-h,oN c o r hs]
theorem dO:∀(a m d vs:List Value),m.length=vs.length->bC (a++m++d) a.length vs=some (a++vs++d)
 | [],[],d,[],_=>by cases d<;>rfl
 | [],x::m,d,v::vs,h=>by
   have:=dO [] m d vs (by simpa using h)
   simp only[List.nil_append,List.length_nil,List.cons_append] at this ⊢
   simp only[bC,this]
 | x::a,m,d,vs,h=>by
   have:=dO a m d vs h
   simp only[List.cons_append,List.length_cons,bC,this]
 | [],[],_,_::_,h=>by simp at h
 | [],_::_,_,[],h=>by simp at h
theorem er {b f o:Nat} {cs cs' vs:List Value} (k:bX e h b cs f) (hone:vs.all oneCell=true) (hsp:bC cs o vs=some cs'):∃h1,h.stores ⟨b,o,none⟩ vs=some h1/\bX e h1 b cs' f/\RowTo h b f h1:=by
 cases hv:vs with
 | nil =>
   subst hv
   obtain rfl:=oN _ _ _ hsp
   exact ⟨h,rfl,k,RowTo.refl _ _ _⟩
 | cons v0 vs0 =>
   rw[hv] at hone hsp
   obtain ⟨bs',g,hrow⟩:=k.row
   cases hfe:f with
   | zero =>
     subst hfe
     refine ⟨h.put b (.cells ⟨cs',e,0,bs',g⟩),?_,⟨k.lo,k.lt,⟨bs',g,?_⟩,fun c=>absurd rfl c⟩,rfl,rfl,rfl,rfl,fun y hy=>by rw[bJ,if_neg hy],fun _ _=>rfl⟩
     ·simp only[Hp.stores,hone,hrow,hsp]
     ·simp only[Hp.row,bJ,if_true]
   | succ q0 =>
     subst hfe
     obtain ⟨l,hl0,hany⟩:∃l,h.fams.get (q0+1)=some l/\l.any (fun m=>Nat.beq m.b b)=true:=by
      have hrow2:=hrow
      unfold Hp.row at hrow2
      split at hrow2
      ·rename_i r hg
       split at hrow2
       ·rename_i e0
        injection hrow2 with hrow2
        rw[hrow2] at e0
        cases e0
       ·rename_i f0' e0
        split at hrow2
        ·rename_i l hl0
         split at hrow2
         ·rename_i ha
          injection hrow2 with hrow2
          rw[hrow2] at e0
          have e1:q0+1=f0'+1:=e0
          exact ⟨l,by rw[e1];exact hl0,ha⟩
         ·cases hrow2
        ·cases hrow2
      ·cases hrow2
     refine ⟨{ h.put b (.cells ⟨cs',e,q0+1,bs',g⟩) with fams:=h.fams.put (q0+1) (qN l b (bs'+o) (bs'+o+(v0::vs0).length)) },?_,⟨k.lo,k.lt,⟨bs',g,?_⟩,fun c=>k.fl c⟩,rfl,rfl,rfl,rfl,fun y hy => ?_,fun q hq => ?_⟩
     ·simp only[Hp.stores,hone,hrow,hsp,hl0]
     ·have hk:(qN l b (bs'+o) (bs'+o+(v0::vs0).length)).any (fun m=>Nat.beq m.b b)=true:=by
       obtain ⟨m0,hm0,hmb⟩:=List.any_eq_true.1 hany
       refine List.any_eq_true.2 ⟨m0,?_,hmb⟩
       unfold qN
       rw[List.mem_filter]
       exact ⟨hm0,by rw[hmb];simp⟩
      have e1:(h.put b (.cells ⟨cs',e,q0+1,bs',g⟩)).objs.get b=some (.cells ⟨cs',e,q0+1,bs',g⟩):=by rw[bJ,if_pos rfl]
      simp only[Hp.row,e1,Tr.get_put,if_true,hk]
     ·show (h.put b _).objs.get y=_
      rw[bJ,if_neg hy]
     ·show (h.fams.put (q0+1) _).get q=_
      rw[Tr.get_put,if_neg (fun c=>hq ⟨c,by omega⟩)]
abbrev Prs:=List (Value×Tx)
def TxK (h:Hp) (B F:Nat->Prop) (v:Value) (ss:Tx):Prop:=(ss=[]/\v=.slice none 0 0)\/∃b f,v=.slice (some ⟨b,0,none⟩) ss.length ss.length/\bX 9 h b (dw ss) f/\¬B b/\¬F f
theorem TxK.toV {v:Value} {ss:Tx} (k:TxK h B F v ss):TxV h v ss:=by
 rcases k with ⟨rfl,rfl⟩|⟨b,f,rfl,hr,_,_⟩
 ·exact .inl ⟨rfl,rfl⟩
 ·exact .inr ⟨b,f,by rw[cp],hr,lZr _,fun _=>lZr _⟩
theorem uG {n0 f0:Nat} {v:Value} {ss:Tx} (k:OwnZ 9 h n0 f0 (dw ss) v) (hB:∀b,B b->b<n0) (hF:∀f,F f->f≠0/\f<f0):TxK h B F v ss:=by
 rcases k with ⟨e,rfl⟩|⟨b,f,rfl,hr,hb,hf⟩
 ·exact .inl ⟨List.map_eq_nil_iff.1 e,rfl⟩
 ·refine .inr ⟨b,f,by rw[cp],hr,fun c => ?_,fun c => ?_⟩
  ·have:=hB b c;omega
  ·have h1:=hF f c
   have:=hf h1.1
   omega
theorem TxK.keep (x:KeepE B F h h1) {v:Value} {ss:Tx} (k:TxK h B F v ss):TxK h1 B F v ss:=by
 rcases k with k|⟨b,f,e,hr,hb,hf⟩
 ·exact .inl k
 ·exact .inr ⟨b,f,e,x.rows _ _ _ _ hr hb hf,hb,hf⟩
theorem TxK.more (hB:∀b,b<h.next->B' b->B b) (hF:∀f,F' f->F f\/(f≠0/\h.nfam<=f)) {v:Value} {ss:Tx} (k:TxK h B F v ss):TxK h B' F' v ss:=by
 rcases k with k|⟨b,f,e,hr,hb,hf⟩
 ·exact .inl k
 ·refine .inr ⟨b,f,e,hr,fun c=>hb (hB b hr.lt c),fun c => ?_⟩
  rcases hF f c with q|⟨q1,q2⟩
  ·exact hf q
  ·have:=hr.fl q1;omega
def PrK (h:Hp) (B F:Nat->Prop) (ps:Prs):Prop:=∀p∈ps,TxK h B F p.1 p.2
theorem PrK.keep (x:KeepE B F h h1) {ps:Prs} (k:PrK h B F ps):PrK h1 B F ps:=fun p hp=>(k p hp).keep x
theorem PrK.more (hB:∀b,b<h.next->B' b->B b) (hF:∀f,F' f->F f\/(f≠0/\h.nfam<=f)) {ps:Prs} (k:PrK h B F ps):PrK h B' F' ps:=fun p hp=>(k p hp).more hB hF
theorem PrK.sub {ps qs:Prs} (k:PrK h B F ps) (hs:∀p∈qs,p∈ps):PrK h B F qs:=fun p hp=>k p (hs p hp)
theorem PrK.app {ps qs:Prs} (k:PrK h B F ps) (k2:PrK h B F qs):PrK h B F (ps++qs):=fun p hp=>(List.mem_append.1 hp).elim (k p) (k2 p)
def aX (ps:Prs):List Value:=ps.map (·.1)
def aK (ps:Prs):List Tx:=ps.map (·.2)
theorem bD (ps:Prs):(aX ps).length=ps.length:=List.length_map _
theorem cj (ps:Prs):(aK ps).length=ps.length:=List.length_map _
def LK (h:Hp) (B F:Nat->Prop) (v:Value) (ps:Prs):Prop:=(ps=[]/\v=.slice none 0 0)\/∃b f js,v=.slice (some ⟨b,0,none⟩) ps.length (ps.length+js.length)/\bX 34 h b (aX ps++js) f/\¬B b/\¬F f
theorem LK.keep (x:KeepE B F h h1) {v:Value} {ps:Prs} (k:LK h B F v ps):LK h1 B F v ps:=by
 rcases k with k|⟨b,f,js,e,hr,hb,hf⟩
 ·exact .inl k
 ·exact .inr ⟨b,f,js,e,x.rows _ _ _ _ hr hb hf,hb,hf⟩
theorem LK.more (hB:∀b,b<h.next->B' b->B b) (hF:∀f,F' f->F f\/(f≠0/\h.nfam<=f)) {v:Value} {ps:Prs} (k:LK h B F v ps):LK h B' F' v ps:=by
 rcases k with k|⟨b,f,js,e,hr,hb,hf⟩
 ·exact .inl k
 ·refine .inr ⟨b,f,js,e,hr,fun c=>hb (hB b hr.lt c),fun c => ?_⟩
  rcases hF f c with q|⟨q1,q2⟩
  ·exact hf q
  ·have:=hr.fl q1;omega
theorem LK.src {v:Value} {ps:Prs} (k:LK h B F v ps):l6 h v (aX ps):=by
 rcases k with ⟨rfl,rfl⟩|⟨b,f,js,rfl,hr,hb0,hf⟩
 ·exact ⟨rfl,rfl⟩
 ·refine ⟨by rw[bD];rfl,?_⟩
  simp only[bS,cB hr,List.drop_zero,Nat.mul_one]
  have:∀(a d:List Value),bU (a++d) a.length=some a:=by
   intro a d
   induction a with
   | nil=>cases d<;>rfl
   | cons x a ih=>simp only[List.cons_append,List.length_cons,bU,ih]
  exact this _ _
theorem LK.load {v:Value} {ps:Prs} (k:LK h B F v ps) {i:Nat} (hi:i<ps.length):∃b c,v=.slice (some ⟨b,0,none⟩) ps.length c/\h.load ⟨b,i,none⟩=some ps[i].1:=by
 rcases k with ⟨rfl,rfl⟩|⟨b,f,js,rfl,hr,hb0,hf⟩
 ·exact absurd hi (lNz _)
 ·refine ⟨b,_,rfl,?_⟩
  rw[bV hr,List.getElem?_append_left (by rw[bD];exact hi)]
  unfold aX
  rw[List.getElem?_map,gEl hi]
  rfl
theorem LK.shape {v:Value} {ps:Prs} (k:LK h B F v ps):∃A c,v=.slice A ps.length c/\spotless A=true:=by
 rcases k with ⟨rfl,rfl⟩|⟨b,f,js,rfl,hr,hb0,hf⟩
 ·exact ⟨none,0,rfl,rfl⟩
 ·exact ⟨_,_,rfl,rfl⟩
def OwnC (h:Hp) (n0 f0:Nat) (v:Value) (ps:Prs):Prop:=(ps=[]/\v=.slice none 0 0)\/∃b f js,v=.slice (some ⟨b,0,none⟩) ps.length (ps.length+js.length)/\bX 34 h b (aX ps++js) f/\n0<=b/\(f≠0->f0<=f)
theorem OwnC.toK {n0 f0:Nat} {v:Value} {ps:Prs} (k:OwnC h n0 f0 v ps) (hB:∀b,B b->b<n0) (hF:∀f,F f->f≠0/\f<f0):LK h B F v ps:=by
 rcases k with k|⟨b,f,js,e,hr,hb,hf⟩
 ·exact .inl k
 ·refine .inr ⟨b,f,js,e,hr,fun c => ?_,fun c => ?_⟩
  ·have:=hB b c;omega
  ·have h1:=hF f c
   have:=hf h1.1
   omega
theorem OwnZ.toC {n0 f0:Nat} {v:Value} {ps:Prs} (k:OwnZ 34 h n0 f0 (aX ps) v):OwnC h n0 f0 v ps:=by
 rcases k with ⟨e,rfl⟩|⟨b,f,rfl,hr,hb,hf⟩
 ·exact .inl ⟨List.map_eq_nil_iff.1 e,rfl⟩
 ·exact .inr ⟨b,f,[],by rw[bD];rfl,by rw[List.append_nil];exact hr,hb,hf⟩
theorem OwnC.ext (x:Ext h h1) {n0 f0:Nat} {v:Value} {ps:Prs} (k:OwnC h n0 f0 v ps):OwnC h1 n0 f0 v ps:=by
 rcases k with k|⟨b,f,js,e,hr,hb,hf⟩
 ·exact .inl k
 ·exact .inr ⟨b,f,js,e,bR (x.toS (S:=fun _=>False)) hr (fun c=>c),hb,hf⟩
theorem OwnC.lower {n0 f0 n1 f1:Nat} {v:Value} {ps:Prs} (k:OwnC h n0 f0 v ps) (q1:n1<=n0) (q2:f1<=f0):OwnC h n1 f1 v ps:=by
 rcases k with k|⟨b,f,js,e,hr,hb,hf⟩
 ·exact .inl k
 ·exact .inr ⟨b,f,js,e,hr,lTr q1 hb,fun c=>lTr q2 (hf c)⟩
end
end Go.Ev.Z24
end
section
namespace Go.Ev.Z24
open Go.RowKit Go.Proofs Go.Shelf Go.Sort
section
variable {h h1 h2:Hp}
theorem vz (x y:ByteArray):Op.bytesLess x.toList y.toList=ltB x y:=by
 rw[ByteArray.toList_eq,ByteArray.toList_eq,<-gY]
 rfl
theorem jy (x y:ByteArray):kX x y=0<->x.data.toList=y.data.toList:=by
 unfold kX
 rw[vz,ByteArray.toList_eq,ByteArray.toList_eq]
 by_cases e:x.data.toList=y.data.toList
 ·have:ltB x y=false:=by rw[kS,e];exact dcF (List.lt_irrefl _)
  simp[this,e]
 ·have e':(x.data.toList==y.data.toList)=false:=by simpa using e
  cases hl:ltB x y
  ·simp[e,e',hl]
  ·simp[e,e',hl]
theorem y5 (x y:ByteArray):kX x y<0<->ltB x y=true:=by
 unfold kX
 rw[vz]
 cases hl:ltB x y
 ·simp only[Bool.false_eq_true,if_false]
  split<;>simp
 ·simp
theorem oO:∀{a b:Tx},a.length=b.length->(gj a b<0<->d4 a b=true)
 | [],[],_=>by simp[gj,d4]
 | x::a,y::b,h=>by
   have ih:=oO (a:=a) (b:=b) (by simpa using h)
   simp only[gj,d4]
   by_cases e:x.data.toList=y.data.toList
   ·rw[if_pos ((jy x y).2 e),if_pos e]
    exact ih
   ·rw[if_neg (fun c=>e ((jy x y).1 c)),if_neg e]
    exact y5 x y
theorem pY:∀{a b:Tx},a.length=b.length->(gj a b=0<->a=b)
 | [],[],_=>by simp[gj]
 | x::a,y::b,h=>by
   have ih:=pY (a:=a) (b:=b) (by simpa using h)
   simp only[gj]
   by_cases e:x.data.toList=y.data.toList
   ·rw[if_pos ((jy x y).2 e),ih,rB e]
    simp
   ·have h1:¬kX x y=0:=fun c=>e ((jy x y).1 c)
    rw[if_neg h1]
    constructor
    ·exact fun c=>absurd c h1
    ·intro c
     injection c with c1 c2
     exact absurd (by rw[c1]) e
theorem y6 {n N:Nat} {T:Fin (n+1)->Tx} (hl:∀i,(T i).length=N):SWO (ltOf fun i j=>gj (T i) (T j)):=by
 have key:∀i j,ltOf (fun i j=>gj (T i) (T j)) i j=d4 (T i) (T j):=by
  intro i j
  unfold ltOf
  rw[Bool.eq_iff_iff,decide_eq_true_iff]
  exact oO (by rw[hl,hl])
 refine ⟨fun i=>by rw[key,iW],fun i j k h1 h2 => ?_,fun i j k h1 h2 => ?_⟩
 ·rw[key] at h1 h2 ⊢
  exact fY (by rw[hl,hl]) (by rw[hl,hl]) h1 h2
 ·rw[key] at h1 h2 ⊢
  cases h3:d4 (T i) (T k) with
  | false=>rfl
  | true =>
    exfalso
    cases h4:d4 (T j) (T i) with
    | true=>rw[fY (by rw[hl,hl]) (by rw[hl,hl]) h4 h3] at h2;cases h2
    | false =>
      have:=kU (by rw[hl,hl]) h1 h4
      rw[this] at h3
      rw[h3] at h2
      cases h2
theorem By {n:Nat} {vf:Fin (n+1)->Value} {T:Fin (n+1)->Tx} (hv:∀i,TxV h (vf i) (T i)) (hl:∀i,(T i).length<=1000000):uh Tryz.prog 69 h 34 vf fun i j=>gj (T i) (T j):=by
 intro ρ N w H ib hib w2 hw i j x y hx hy
 refine (pW w2 (Ac H (hv i) hx hib hw) (Ac H (hv j) hy hib hw) (hl i) (hl j)).mono ?_
 rintro e w' ⟨rfl,rfl⟩
 exact ⟨rfl,0,#[],by rw[grow_empty];rfl⟩
theorem xf {v u:Value} {xs ys:Tx} (hx:TxV h v xs) (hy:TxV h u ys) (hxl:xs.length<=1000000) (hyl:ys.length<=1000000):Snd Tryz.prog 69 [v,u] h (.int .i64 (gj xs ys)) h:=by
 refine ⟨⟨_,_,Tryz.func69,rfl,rfl⟩,?_⟩
 intro ρ N w args' H hA
 cases hA with
 | @cons _ v' _ l' hv hl =>
 cases hl with
 | @cons _ u' _ l2 hu hl3 =>
 cases hl3 with
 | nil =>
 have key:∀{v x:Value} {ss:Tx},TxV h v ss->VR ρ v x->TxW w x ss:=by
  intro v x ss k hx
  rcases k with ⟨e,rfl⟩|⟨b,f,rfl,hr,_,_⟩
  ·have e':ss=[]:=List.map_eq_nil_iff.1 e
   subst e'
   cases hx with
   | slNil=>exact ⟨none,0,rfl,fun c=>absurd rfl c⟩
  ·rw[cp] at hx
   by_cases hz:ss=[]
   ·subst hz
    generalize hn:([]:Tx).length=n at hx
    cases hx with
    | sl h1 h2=>exact ⟨_,_,by rw[hn],fun c=>absurd rfl c⟩
    | slZero=>exact ⟨_,_,by rfl,fun c=>absurd rfl c⟩
   ·have hpos:0<ss.length:=List.length_pos_iff.2 hz
    obtain ⟨a',i,c',rfl,hAR⟩:∃a' i c',x=.slice (some a') ss.length c'/\AR ρ ⟨b,0,none⟩ a' i:=by
     generalize ss.length=nn at hx hpos
     cases hx with
     | sl h1 h2=>exact ⟨_,_,_,rfl,h1⟩
     | slZero a a' h1=>omega
    obtain ⟨bs',g,hrow⟩:=hr.row
    obtain ⟨arr,e,fr,hwb,hR,_⟩:=H.row hrow hAR.2.1
    have ha:a'=⟨i.b,i.s+0,none⟩:=hAR.2.2
    refine ⟨some a',c',rfl,fun _=>⟨i.b,i.s+0,by rw[ha],fun j s hj => ?_⟩⟩
    have hcj:(dw ss)[j]? = some (.string s):=by
     unfold dw
     rw[List.getElem?_map,hj]
     rfl
    obtain ⟨v',q1,q2⟩:=hR.2.2.2.1 j _ hcj
    cases q2 with
    | string =>
    simp only[World.cell?,hwb,Nat.add_zero]
    simp[q1]
 refine (pW w (key hx hv) (key hy hu) hxl hyl).mono ?_
 rintro e w' ⟨rfl,rfl⟩
 exact ⟨ρ,_,rfl,Rho.le_refl ρ,H,.int _ _,Below.refl _ _⟩
theorem vA {v u:Value} {xs ys:Tx} (hx:TxV h v xs) (hy:TxV h u ys) (hxl:xs.length<=1000000) (hyl:ys.length<=1000000) (hxy:xs.length=ys.length):Snd Tryz.prog 71 [v,u] h (.bool (decide (xs=ys))) h:=by
 suffices ∃w h1,Snd Tryz.prog 71 [v,u] h w h1/\w=.bool (decide (xs=ys))/\h1=h by
  obtain ⟨w,h1,k,rfl,rfl⟩:=this
  exact k
 refine aL wf Tryz.func71 rfl rfl (n:=9) rfl (by kernel_rfl) rfl ?_
 intro a hn hg
 have hr:Tryz.f71.results.toList=[.tmp 4]:=rfl
 have g0:=hg 0
 have g1:=hg 1
 clear hg
 simp only[gC0,gC1] at g0 g1
 have e:decide (gj xs ys=0)=decide (xs=ys):=by
  rw[decide_eq_decide]
  exact pY hxy
 simp -dsimp only[go_sem,g0,g1,hr]
 refine ⟨_,_,xf hx hy hxl hyl,?_⟩
 simp -dsimp only[go_sem,g0,g1,hr,e]
end
section
variable {h h1 h2:Hp} {B F:Nat->Prop}
theorem oP {ps:Prs} (k:∀p∈ps,TxV h p.1 p.2):(aX ps).all oneCell=true:=by
 unfold aX
 rw[List.all_map]
 refine List.all_eq_true.2 fun p hp => ?_
 have:=(k p hp).cell
 simpa using this
theorem PrK.v {ps:Prs} (k:PrK h B F ps):∀p∈ps,TxV h p.1 p.2:=fun p hp=>(k p hp).toV
theorem C0 {h:Hp} {v x:Value} {n0 f0:Nat} {cs ds:List Value} (hx1:ds.all oneCell=true) (k:OwnZ 34 h n0 f0 cs v) (hw:l6 h x ds) (hb:h.base<=h.next) (hn0:n0<=h.next) (hf0:f0<=h.nfam) (hsz:cs.length+ds.length<=1000000) :
  ∃v' h',bt Tryz.prog h [27,27] [v,x]=some (v',h')/\OwnZ 34 h' n0 f0 (cs++ds) v'/\pm 34 h n0 f0 h'/\tG h h' :=
 io (e:=34) (t:=27) Tryz.underlying27 eJ oy (by exact ⟨rfl,by decide⟩) (by kernel_rfl) (by kernel_rfl) hx1 k hw hb hn0 hf0 hsz
theorem uH (n:Nat) (hn:n<=1000) (ps:List (Nat×Value)):aY Tryz.prog 27 n ps=match cM (fun i=>some (i*1,1)) (aC [.slice none 0 0] n) ps with|some c=>some (.cells ⟨c,34,0,0,false⟩,fun b=>.slice (some ⟨b,0,none⟩) n n)|none=>none :=
 cV Tryz.underlying27 eJ oy rfl (by decide) (by omega) ps
theorem sP {v:Value} {ps:Prs} (k:LK h B F v ps) (hp:PrK h B F ps) (hb:h.base<=h.next) (hl:ps.length<=1000000):∃w h1,Snd Tryz.prog 47 [v] h w h1/\Ext h h1/\OwnZ 34 h1 h.next h.nfam (aX ps) w:=by
 have hsrc:=k.src
 refine aL wf Tryz.func47 rfl rfl (n:=8) rfl (by kernel_rfl) rfl ?_
 intro a hn hg
 have hr:Tryz.f47.results.toList=[.tmp 2]:=rfl
 have g0:=hg 0
 clear hg
 simp only[gC0,gC1] at g0
 rcases k with ⟨e,rfl⟩|⟨b,f,js,rfl,hrow,_,_⟩
 ·subst e
  have k1:be Tryz.prog h .eql 27 (.tmp 3) (.const (.slice none 0 0)) (.slice none 0 0) (.slice none 0 0)=some (.bool true):=by
   first|rfl|simp[be,eqv,Tryz.underlying27]
  simp -dsimp only[go_sem,g0,k1,hr]
  exact ⟨Ext.refl _,.inl ⟨rfl,rfl⟩⟩
 ·have k1:∀A:Addr,∀n c,be Tryz.prog h .eql 27 (.tmp 3) (.const (.slice none 0 0)) (.slice (some A) n c) (.slice none 0 0)=some (.bool false):=by
   intro A n c
   first|rfl|simp[be,eqv,Tryz.underlying27]
  have hx1:=Ext.new h (ak.cells ⟨[],34,0,0,false⟩)
  have hZ0:OwnZ 34 (h.newH (ak.cells ⟨[],34,0,0,false⟩)) h.next h.nfam [] (.slice (some ⟨h.next,0,none⟩) 0 0) :=
   .inr ⟨h.next,0,rfl,⟨hb,lSs _,⟨0,false,by simp only[Hp.row,cW,if_true]⟩,fun e=>absurd rfl e⟩,lRf _,fun e=>absurd rfl e⟩
  have hb1:=Nat.le_succ_of_le (m:=h.next) hb
  have hsrc1:l6 (h.newH (ak.cells ⟨[],34,0,0,false⟩)) (.slice (some ⟨b,0,none⟩) ps.length (ps.length+js.length)) (aX ps):=by
   have:=bR (hx1.toS (S:=fun _=>False)) hrow (fun c=>c)
   exact LK.src (B:=fun _=>False) (F:=fun _=>False) (.inr ⟨b,f,js,rfl,this,fun c=>c,fun c=>c⟩)
  obtain ⟨v2,H2,p2,o2,⟨x2,_⟩,_⟩:=C0 (oP hp.v) hZ0 hsrc1 hb1 hx1.next hx1.nfam (by simp only[bD,List.length_nil];omega)
  have z2:Ext h H2:=(x2 (fun _=>False) h hx1.toS (lRf _) (lRf _)).ext (fun _ _ c=>c)
  simp -dsimp only[go_sem,g0,k1,uH 0 (by decide),aC,bP,p2,hr]
  rw[List.nil_append] at o2
  exact ⟨z2,o2⟩
theorem Bz {v:Value} {ps:Prs} {n0 f0 N:Nat} (k:OwnZ 34 h n0 f0 (aX ps) v) (hv:∀p∈ps,TxV h p.1 p.2) (hl:∀p∈ps,p.2.length=N) (hN:N<=1000000) (hps:ps.length<=1000000) :
  ∃h1 ps',Snd Tryz.prog 68 [v,.func (.func 69) #[] #[]] h (.tuple #[]) h1/\OwnZ 34 h1 n0 f0 (aX ps') v/\ps'.Perm ps/\ps'.Pairwise (fun a b=>d4 b.2 a.2=false)/\∃b f,RowTo h b f h1/\n0<=b/\(f≠0->f0<=f):=by
 rcases k with ⟨e,rfl⟩|⟨b,f,rfl,hr,hb0,hf⟩
 ·have e':ps=[]:=List.map_eq_nil_iff.1 e
  subst e'
  exact ⟨h,[],oh uW,.inl ⟨rfl,rfl⟩,.refl _,List.Pairwise.nil,n0,0,RowTo.refl _ _ _,lRf _,fun c=>absurd rfl c⟩
 ·rw[bD]
  cases hps':ps.length with
  | zero =>
    have e':=List.length_eq_zero_iff.1 hps'
    subst e'
    exact ⟨h,[],oh uW,.inr ⟨b,f,rfl,hr,hb0,hf⟩,.refl _,List.Pairwise.nil,n0,0,RowTo.refl _ _ _,lRf _,fun c=>absurd rfl c⟩
  | succ n =>
    have hlt:∀i:Fin (n+1),i.val<ps.length:=fun i=>by omega
    have hT:∀i:Fin (n+1),(ps[i.val]'(hlt i))∈ps:=fun i=>List.getElem_mem _
    obtain ⟨cf,hcf⟩:∃cf:Fin (n+1)->Fin (n+1)->Int,cf=fun i j=>gj (ps[i.val]'(hlt i)).2 (ps[j.val]'(hlt j)).2:=⟨_,rfl⟩
    have hO:SWO (ltOf cf):=by
     rw[hcf]
     exact y6 (T:=fun i:Fin (n+1)=>(ps[i.val]'(hlt i)).2) (N:=N) (fun i=>hl _ (hT i))
    obtain ⟨pl1,pl2,pl3⟩:=jK hO
    have hC:uh Tryz.prog 69 h 34 (fun i:Fin (n+1)=>(ps[i.val]'(hlt i)).1) cf:=by
     rw[hcf]
     exact By (h:=h) (vf:=fun i:Fin (n+1)=>(ps[i.val]'(hlt i)).1) (T:=fun i:Fin (n+1)=>(ps[i.val]'(hlt i)).2) (fun i=>hv _ (hT i)) (fun i=>by rw[hl _ (hT i)];exact hN)
    have hmem:∀p∈(cr n cf).map (fun i:Fin (n+1)=>ps[i.val]'(hlt i)),p∈ps:=by
     intro p hp
     obtain ⟨i,_,rfl⟩:=List.mem_map.1 hp
     exact hT i
    have hfs:aX ((cr n cf).map (fun i:Fin (n+1)=>ps[i.val]'(hlt i)))=(cr n cf).map (fun i:Fin (n+1)=>(ps[i.val]'(hlt i)).1):=by
     unfold aX
     rw[List.map_map]
     rfl
    have hone:(aX ((cr n cf).map (fun i:Fin (n+1)=>ps[i.val]'(hlt i)))).all oneCell=true:=oP (h:=h) (fun p hp=>hv p (hmem p hp))
    have hlen:(aX ps).length=(aX ((cr n cf).map (fun i:Fin (n+1)=>ps[i.val]'(hlt i)))).length:=by rw[bD,bD,List.length_map,pl1,hps']
    have hsp:=dO [] (aX ps) [] _ hlen
    rw[List.nil_append,List.append_nil,List.nil_append,List.append_nil,List.length_nil] at hsp
    obtain ⟨h1,hst,hR,hT1⟩:=er hr hone hsp
    obtain ⟨bs',g,hrow⟩:=hr.row
    have hS:=wL (P:=Tryz.prog) (h:=h) (h1:=h1) uW (a:=⟨b,0,none⟩) (r:=⟨aX ps,34,f,bs',g⟩) hrow (n:=n) (vf:=fun i:Fin (n+1)=>(ps[i.val]'(hlt i)).1) (fun i=>by
     obtain ⟨A,e,_⟩:=(hv _ (hT i)).len
     exact ⟨A,_,_,e⟩) (fun j=>by
     show (aX ps)[0+j.val]? = _
     unfold aX
     rw[Nat.zero_add,List.getElem?_map,gEl (by omega)]
     rfl) (by omega) hO hC (cap:=n+1) (by rw[<-hfs];exact hst)
    refine ⟨h1,_,hS,.inr ⟨b,f,by rw[<-hlen,bD,hps'],hR,hb0,hf⟩,?_,?_,b,f,hT1,hb0,hf⟩
    ·have h5:=pl2.map (fun i:Fin (n+1)=>ps[i.val]'(hlt i))
     refine h5.trans ?_
     have:(List.ofFn (n:=n+1) id).map (fun i:Fin (n+1)=>ps[i.val]'(hlt i))=ps:=by
      apply List.ext_getElem
      ·simp[hps']
      ·intro i h1 h2
       rw[List.getElem_map,List.getElem_ofFn]
       rfl
     rw[this]
    ·rw[List.pairwise_map]
     refine pl3.imp ?_
     intro x y hxy
     cases hc:d4 (ps[y.val]'(hlt y)).2 (ps[x.val]'(hlt x)).2 with
     | false=>rfl
     | true =>
       exfalso
       have h6:=(oO (by rw[hl _ (hT y),hl _ (hT x)])).2 hc
       unfold ltOf at hxy
       rw[hcf] at hxy
       exact absurd h6 (of_decide_eq_false hxy)
end
section
variable {h h0 h1 h2:Hp} {B F:Nat->Prop}
def ddP:Option Tx->Prs->Prs
 | _,[]=>[]
 | o,p::l=>if o=some p.2 then ddP (some p.2) l else p::ddP (some p.2) l
theorem sQ:∀(l:Prs) (o:Option Tx) (x:Value×Tx),ddP o (l++[x])=ddP o l++(if (match l.getLast? with|some y=>some y.2|none=>o)=some x.2 then [] else [x])
 | [],o,x=>by
   simp only[List.nil_append,ddP,List.getLast?_nil]
   by_cases c:o=some x.2<;>simp[c]
 | p::l,o,x=>by
   have ih:=sQ l (some p.2) x
   have e:(match (p::l).getLast? with|some y=>some y.2|none=>o)=(match l.getLast? with|some y=>some y.2|none=>some p.2):=by
    cases l with
    | nil=>rfl
    | cons q l=>rw[List.getLast?_cons_cons];cases h:(q::l).getLast? with
      | none=>simp at h
      | some y=>rfl
   rw[e]
   simp only[List.cons_append,ddP]
   split
   ·exact ih
   ·rw[ih];rfl
theorem sR {ps:Prs} {i:Nat} (hi:i+1<ps.length):ddP none (ps.take (i+1+1))=ddP none (ps.take (i+1))++(if ps[i+1].2=ps[i].2 then [] else [ps[i+1]]):=by
 rw[List.take_succ_eq_append_getElem hi,sQ]
 have e:(ps.take (i+1)).getLast? = some ps[i]:=by
  rw[List.take_succ_eq_append_getElem (by omega),List.getLast?_append]
  rfl
 rw[e]
 simp only[Option.some.injEq]
 congr 1
 by_cases c:ps[i].2=ps[i+1].2
 ·rw[if_pos c,if_pos c.symm]
 ·rw[if_neg c,if_neg (fun q=>c q.symm)]
theorem m9:∀(l:Prs) (o:Option Tx) (p:Value×Tx),p∈ddP o l->p∈l
 | q::l,o,p,h=>by
   simp only[ddP] at h
   split at h
   ·exact .tail _ (m9 l _ p h)
   ·cases h with
    | head=>exact .head _
    | tail _ h=>exact .tail _ (m9 l _ p h)
theorem xg {b f c0:Nat} {cs:List Value} (hr:bX 34 h b cs f) {i:Nat} (hi:i<=cs.length):dn Tryz.prog h 27 (.slice (some ⟨b,0,none⟩) cs.length cs.length) none (some (.int .i64 (i:Int))) none=some (.slice (some ⟨b,0,none⟩) i cs.length) :=
 (pP (n0:=0) (f0:=0) Tryz.underlying27 eJ (.inr ⟨b,f,rfl,hr,lZr _,fun _=>lZr _⟩) hi).1
theorem pZ {b f:Nat} {cs:List Value} (hr:bX 34 h b cs f) {i:Nat} (hi:i<=cs.length):dn Tryz.prog h 27 (.slice (some ⟨b,0,none⟩) cs.length cs.length) (some (.int .i64 (i:Int))) none none=some (.slice (some ⟨b,i,none⟩) (cs.length - i) (cs.length - i)):=by
 have:=(jp (n0:=0) (f0:=0) Tryz.underlying27 eJ (.inr ⟨b,f,rfl,hr,lZr _,fun _=>lZr _⟩) hi).1
 rw[this]
 simp only[loV,Option.map_some,j6,Nat.mul_one,Nat.zero_add]
theorem i4 (v:Value):∀n,(aC [v] n).length=n
 | 0=>rfl
 | n+1=>by simp only[aC,List.length_append,i4 v n,List.length_singleton];omega
theorem mF:∀n,(aC [.slice none 0 0] n).all oneCell=true
 | 0=>rfl
 | n+1=>by rw[aC,List.all_append,mF n];rfl
theorem xh {b f i:Nat} {cs:List Value} (hr:bX 34 h b cs f) (hi:i<cs.length) {n c:Nat} (hn:n=cs.length - i):∃h1 js,ny Tryz.prog h [27] [.slice (some ⟨b,i,none⟩) n c]=some (.tuple #[],h1)/\bX 34 h1 b (cs.take i++js) f/\js.length=cs.length - i/\RowTo h b f h1:=by
 have hsp:=dO (cs.take i) (cs.drop i) [] (aC [.slice none 0 0] (cs.length - i)) (by rw[List.length_drop,i4])
 rw[List.append_nil,List.append_nil,List.take_append_drop,List.length_take,Nat.min_eq_left (Nat.le_of_lt hi)] at hsp
 obtain ⟨h1,hst,hR,hT⟩:=er hr (mF _) hsp
 refine ⟨h1,_,?_,hR,i4 _ _,hT⟩
 obtain ⟨m,hm⟩:∃m,n=m+1:=⟨n - 1,by omega⟩
 rw[<-hn,hm] at hst
 rw[hm]
 simp only[ny,Tryz.underlying27,oy]
 show (match h.stores ⟨b,i,none⟩ (aC [.slice none 0 0] (m+1)) with|some h=>some (Value.tuple #[],h)|none=>none)=_
 rw[hst]
theorem za:aB 9 (.func (.func 71) #[] #[]) (.func (.func 71) #[] #[])=true:=by rfl
theorem uI {ps:Prs} {b f k0 N:Nat} (hlo:h0.next<=b) (hfo:f≠0->h0.nfam<=f) (hv:∀p∈ps,TxV h0 p.1 p.2) (hl:∀p∈ps,p.2.length=N) (hN:N<=1000000) (hps:ps.length<=1000000) (hk1:1<=k0) (hk:k0<ps.length)
  {a:Ev.A} {h:Hp} {Q:Ex->Ev.A->Hp->Prop} (hn:a.n=66) (x0:Ext h0 h) (hr:bX 34 h b (aX (ps.take k0)++aX (ps.drop k0)) f) (hd:ddP none (ps.take (k0+1))=ps.take k0)
  (g0:a.get 0=.slice (some ⟨b,0,none⟩) ps.length ps.length) (g1:a.get 1=.func (.func 71) #[] #[]) (g5:a.get 5=.int .i64 (k0:Int)) (g6:a.get 6=.slice (some ⟨b,k0,none⟩) (ps.length - k0) (ps.length - k0)) (g7:a.get 7=.int .i64 1)
  (hq:∀(a1:Ev.A) (h1:Hp) (out:Prs),a1.n=66->out=ddP none ps->RowTo h b f h1->out.length<ps.length->bX 34 h1 b (aX out++aX (ps.drop out.length)) f->a1.get 0=.slice (some ⟨b,0,none⟩) ps.length ps.length->a1.get 5=.int .i64 (out.length:Int)->Q (.exit 2) a1 h1) :
  Th Tryz.prog (aw Tryz.f70 [1,1,0,1,0,0,1,0,0,1,0,1,0,1,0]) a h Q ⟨⟩ ⟨⟩:=by
 simp only[aw,nav,Tryz.f70]
 refine au (n:=66) (by kernel_rfl) (fun m' a' h'=>∃(i:Nat) (out:Prs),1<=i/\k0+i<=ps.length/\m'=ps.length - (k0+i)/\RowTo h b f h'/\out=ddP none (ps.take (k0+i))/\out.length<k0+i/\bX 34 h' b (aX out++aX (ps.drop out.length)) f /\
  a'.get 0=.slice (some ⟨b,0,none⟩) ps.length ps.length/\a'.get 1=.func (.func 71) #[] #[]/\a'.get 5=.int .i64 (out.length:Int)/\a'.get 6=.slice (some ⟨b,k0,none⟩) (ps.length - k0) (ps.length - k0)/\a'.get 7=.int .i64 (i:Int)) ?_ _ _ _ hn
  ⟨1,ps.take k0,lRf _,hk,rfl,RowTo.refl _ _ _,hd.symm,by rw[List.length_take];omega,by rw[List.length_take,Nat.min_eq_left (Nat.le_of_lt hk)];exact hr,g0,g1,by rw[List.length_take,Nat.min_eq_left (Nat.le_of_lt hk)];exact g5,g6,g7⟩
 rintro m' a' h' hn' ⟨i,out,hi1,hi,rfl,hT,ho,hol,hR,e0,e1,e5,e6,e7⟩
 by_cases hlt:k0+i<ps.length
 rotate_left
 ·have c0:decide ((i:Int)<((ps.length - k0:Nat):Int))=false:=dcF (by omega)
  have e:ps.take (k0+i)=ps:=List.take_of_length_le (by omega)
  rw[e] at ho
  simp -dsimp only[go_sem,e0,e5,e6,e7,c0]
  exact hq _ _ out (by simp -dsimp only[go_sem,hn']) ho hT (by omega) hR (by simp -dsimp only[go_sem,e0]) (by simp -dsimp only[go_sem,e5])
 have c1:decide ((i:Int)<((ps.length - k0:Nat):Int))=true:=dcT (by omega)
 have x1:Ext h0 h':=(hT.ext (x0.toS (S:=fun _=>False)) hlo hfo).ext (fun _ _ c=>c)
 have hget:∀(A D:List Value) (j:Nat),A.length<=j->(A++D)[j]? = D[j - A.length]? := fun A D j hj=>List.getElem?_append_right hj
 have hcell:∀j (hj:j<ps.length),out.length<=j->h'.load ⟨b,j,none⟩=some ps[j].1:=by
  intro j hj hoj
  rw[bV hR,hget _ _ _ (by rw[bD];exact hoj),bD]
  unfold aX
  rw[List.getElem?_map,List.getElem?_drop,show out.length+(j - out.length)=j by omega,gEl hj]
  rfl
 obtain ⟨i',hi'⟩:∃i',i=i'+1:=⟨i - 1,by omega⟩
 have hm1:=hcell (k0+i) hlt (by omega)
 have hm2:=hcell (k0+i') (by omega) (by omega)
 have hsub:IntKind.i64.wrap ((i:Int) - 1)=(i':Int):=by simp[IntKind.wrap,IntKind.bits,IntKind.signed];omega
 have ii:ap Tryz.prog 27 (.slice (some ⟨b,k0,none⟩) (ps.length - k0) (ps.length - k0)) (.int .i64 (i:Int))=some (.pointer (some ⟨b,k0+i,none⟩)):=jO (by omega)
 have ii':ap Tryz.prog 27 (.slice (some ⟨b,k0,none⟩) (ps.length - k0) (ps.length - k0)) (.int .i64 (i':Int))=some (.pointer (some ⟨b,k0+i',none⟩)):=jO (by omega)
 have hp1:ps[k0+i]∈ps:=List.getElem_mem hlt
 have hp2:ps[k0+i']∈ps:=List.getElem_mem (by omega)
 have hcall:=vA (h:=h') ((hv _ hp1).ext x1) ((hv _ hp2).ext x1) (by rw[hl _ hp1];exact hN) (by rw[hl _ hp2];exact hN) (by rw[hl _ hp1,hl _ hp2])
 have hdd:=sR (ps:=ps) (i:=k0+i') (by omega)
 simp -dsimp only[go_sem,e0,e1,e5,e6,e7,c1]
 have hs1:=fun j=>(hv _ hp1).same j
 have hs2:=fun j=>(hv _ hp2).same j
 refine aD (n:=66) [[],[],[],[1,2],[1,2,3],[],[],[6],[5,6,7],[5,6,7,8],[0,1,2,3,4,5,6,7,8,9],[0,1,2,3,4,5,6,7,8,9,10]] (by simp -dsimp only[go_sem,hn']) (ao (by kernel_rfl)) ?_
 simp -dsimp only[go_sem,e0,e1,e5,e6,e7,ii,ii',hsub,hm1,hm2,za,hs1,hs2]
 refine ⟨_,_,hcall,?_⟩
 by_cases hE:ps[k0+i].2=ps[k0+i'].2
 ·have hE1:decide (ps[k0+i].2=ps[k0+i'].2)=true:=dcT hE
  rw[hE1]
  simp -dsimp only[go_sem,e0,e1,e5,e6,e7,Bool.not_true,ah (show i<ps.length by omega) (lTr hps (by decide))]
  refine ⟨ps.length - (k0+(i+1)),by omega,i+1,out,by omega,by omega,rfl,hT,?_,by omega,hR,rfl,rfl⟩
  subst hi'
  rw[show k0+(i'+1+1)=k0+i'+1+1 by omega,hdd,if_pos (show ps[k0+i'+1].2=ps[k0+i'].2 from hE),List.append_nil]
  exact ho
 ·have hE1:decide (ps[k0+i].2=ps[k0+i'].2)=false:=dcF hE
  rw[hE1]
  have hol2:out.length<ps.length:=by omega
  have ii0:ap Tryz.prog 27 (.slice (some ⟨b,0,none⟩) ps.length ps.length) (.int .i64 (out.length:Int))=some (.pointer (some ⟨b,0+out.length,none⟩)):=jO hol2
  have hc1:[ps[k0+i].1].all oneCell=true:=(hv _ hp1).cell
  have hsp:=dO (aX out) [ps[out.length].1] (aX (ps.drop (out.length+1))) [ps[k0+i].1] rfl
  have e8:aX out++aX (ps.drop out.length)=aX out++[ps[out.length].1]++aX (ps.drop (out.length+1)):=by
   rw[List.drop_eq_getElem_cons hol2,List.append_assoc]
   rfl
  rw[<-e8,bD] at hsp
  obtain ⟨h2,hst,hR2,hT2⟩:=er hR hc1 hsp
  obtain ⟨A9,hA9,_⟩:=(hv _ hp1).len
  rw[hA9] at hst hm1
  simp -dsimp only[go_sem,e0,e1,e5,e6,e7,Bool.not_false,ii,ii0,hm1,Nat.zero_add,hst,ah (show i<ps.length by omega) (lTr hps (by decide)),ah hol2 (lTr hps (by decide))]
  have hfo2:out++[ps[k0+i]]=ddP none (ps.take (k0+(i+1))):=by
   subst hi'
   rw[show k0+(i'+1+1)=k0+i'+1+1 by omega,hdd,if_neg (show ¬ps[k0+i'+1].2=ps[k0+i'].2 from hE),ho]
   rfl
  refine ⟨ps.length - (k0+(i+1)),by omega,i+1,out++[ps[k0+i]],by omega,by omega,rfl,hT.trans hT2,hfo2,by simp;omega,?_,by simp,rfl⟩
  have e9:aX (out++[ps[k0+i]])++aX (ps.drop (out++[ps[k0+i]]).length)=aX out++[ps[k0+i].1]++aX (ps.drop (out.length+1)):=by
   simp[aX]
  rw[e9]
  exact hR2
theorem xi {ps:Prs} {v:Value} {N:Nat} {h:Hp} (x0:Ext h0 h) (k:OwnZ 34 h h0.next h0.nfam (aX ps) v) (hv:∀p∈ps,TxV h0 p.1 p.2) (hl:∀p∈ps,p.2.length=N) (hN:N<=1000000) (hps:ps.length<=1000000) :
  ∃w h1,Snd Tryz.prog 70 [v,.func (.func 71) #[] #[]] h w h1/\Ext h0 h1/\OwnC h1 h0.next h0.nfam w (ddP none ps):=by
 refine aL wf Tryz.func70 rfl rfl (n:=66) rfl (by kernel_rfl) rfl ?_
 intro a hn hg
 have hr:Tryz.f70.results.toList=[.tmp 4]:=rfl
 have g0:=hg 0
 have g1:=hg 1
 clear hg
 simp only[gC0,gC1] at g0 g1
 obtain ⟨A0,hA0,_⟩:=k.len
 rw[bD] at hA0
 by_cases h2:ps.length<2
 ·have c1:decide ((ps.length:Int)<2)=true:=dcT (by omega)
  have ed:ddP none ps=ps:=by
   match ps,h2 with
   | [],_=>rfl
   | [x],_=>rfl
  rw[ed]
  have kC:=k.toC
  rw[hA0] at g0 kC
  simp -dsimp only[go_sem,g0,g1,c1,hr]
  exact ⟨x0,kC⟩
 ·have c1:decide ((ps.length:Int)<2)=false:=dcF (by omega)
  obtain ⟨b,f,hvb,hR,hlo,hfo⟩:∃b f,v=.slice (some ⟨b,0,none⟩) ps.length ps.length/\bX 34 h b (aX ps) f/\h0.next<=b/\(f≠0->h0.nfam<=f):=by
   rcases k with ⟨e,rfl⟩|⟨b,f,rfl,hr,hb,hf⟩
   ·rw[List.map_eq_nil_iff.1 e] at h2
    exact absurd (by decide) h2
   ·exact ⟨b,f,by rw[bD],hr,hb,hf⟩
  rw[hvb] at g0
  clear hA0
  simp -dsimp only[go_sem,g0,g1,c1]
  refine au (n:=66) (by kernel_rfl) (fun m' a' h'=>∃i:Nat,1<=i/\i<=ps.length/\m'=ps.length - i/\h'=h/\ddP none (ps.take i)=ps.take i /\
   a'.get 0=.slice (some ⟨b,0,none⟩) ps.length ps.length/\a'.get 1=.func (.func 71) #[] #[]/\a'.get 5=.int .i64 (i:Int)) ?_ _ _ _ (by simp -dsimp only[go_sem,hn])
   ⟨1,lRf _,by omega,rfl,rfl,?_,by simp -dsimp only[go_sem,g0],by simp -dsimp only[go_sem,g1],by simp -dsimp only[go_sem];rfl⟩
  rotate_left
  ·match ps,h2 with
   | [],h2=>exact absurd (by decide) h2
   | x::l,_=>rfl
  rintro m' a' h' hn' ⟨i,hi1,hi,rfl,rfl,hd,e0,e1,e5⟩
  by_cases hlt:i<ps.length
  rotate_left
  ·have c0:decide ((i:Int)<(ps.length:Int))=false:=dcF (by omega)
   have e:ps.take i=ps:=List.take_of_length_le (by omega)
   rw[e] at hd
   simp -dsimp only[go_sem,e0,e1,e5,c0,hr]
   rw[hd]
   refine ⟨x0,.inr ⟨b,f,[],rfl,by rw[List.append_nil];exact hR,hlo,hfo⟩⟩
  have c2:decide ((i:Int)<(ps.length:Int))=true:=dcT (by omega)
  have hcell:∀j (hj:j<ps.length),h'.load ⟨b,j,none⟩=some ps[j].1:=by
   intro j hj
   rw[bV hR]
   unfold aX
   rw[List.getElem?_map,gEl hj]
   rfl
  obtain ⟨i',hi'⟩:∃i',i=i'+1:=⟨i - 1,by omega⟩
  have hm1:=hcell i hlt
  have hm2:=hcell i' (by omega)
  have hsub:IntKind.i64.wrap ((i:Int) - 1)=(i':Int):=by simp[IntKind.wrap,IntKind.bits,IntKind.signed];omega
  have ii:ap Tryz.prog 27 (.slice (some ⟨b,0,none⟩) ps.length ps.length) (.int .i64 (i:Int))=some (.pointer (some ⟨b,0+i,none⟩)):=jO (by omega)
  have ii':ap Tryz.prog 27 (.slice (some ⟨b,0,none⟩) ps.length ps.length) (.int .i64 (i':Int))=some (.pointer (some ⟨b,0+i',none⟩)):=jO (by omega)
  have hp1:ps[i]∈ps:=List.getElem_mem hlt
  have hp2:ps[i']∈ps:=List.getElem_mem (by omega)
  have hcall:=vA (h:=h') ((hv _ hp1).ext x0) ((hv _ hp2).ext x0) (by rw[hl _ hp1];exact hN) (by rw[hl _ hp2];exact hN) (by rw[hl _ hp1,hl _ hp2])
  have hdd:=sR (ps:=ps) (i:=i') (by omega)
  have hs1:=fun j=>(hv _ hp1).same j
  have hs2:=fun j=>(hv _ hp2).same j
  simp -dsimp only[go_sem,e0,e1,e5,c2]
  refine aD (n:=66) [[],[],[],[1,2],[1,2,3],[],[],[6],[5,6,7],[5,6,7,8],[0,1,2,3,4,5,6,7,8,9]] (by simp -dsimp only[go_sem,hn']) (ao (by kernel_rfl)) ?_
  simp -dsimp only[go_sem,e0,e1,e5,ii,ii',hsub,Nat.zero_add,hm1,hm2,za,hs1,hs2]
  refine ⟨_,_,hcall,?_⟩
  by_cases hE:ps[i].2=ps[i'].2
  rotate_left
  ·have hE1:decide (ps[i].2=ps[i'].2)=false:=dcF hE
   rw[hE1]
   simp -dsimp only[go_sem,e0,e1,e5,ah hlt (lTr hps (by decide))]
   refine ⟨ps.length - (i+1),by omega,i+1,by omega,by omega,rfl,?_,rfl⟩
   subst hi'
   rw[hdd,if_neg hE,hd,List.take_succ_eq_append_getElem hlt]
  have hE1:decide (ps[i].2=ps[i'].2)=true:=dcT hE
  rw[hE1]
  have hlenR:(aX ps).length=ps.length:=bD ps
  have hslo:=pZ hR (i:=i) (by omega)
  rw[hlenR] at hslo
  simp -dsimp only[go_sem,e0,e1,e5,hslo,Option.toList_some,Option.toList_none,List.cons_append,List.nil_append,List.append_nil,evList,Option.bind_some,Option.bind_none]
  refine uI (h0:=h0) (k0:=i) (ps:=ps) hlo hfo hv hl hN hps hi1 hlt (by simp -dsimp only[go_sem,hn']) x0 (by unfold aX;rw[<-List.map_append,List.take_append_drop];exact hR) (by subst hi';rw[hdd,if_pos hE,hd,List.append_nil]) (by simp -dsimp only[go_sem,e0]) (by simp -dsimp only[go_sem,e1]) (by simp -dsimp only[go_sem,e5]) (by simp -dsimp only[go_sem]) (by simp -dsimp only[go_sem]) (fun a1 h3 out hn1 ho hT hol hR3 q0 q5 => ?_)
  have hlen3:(aX out++aX (ps.drop out.length)).length=ps.length:=by
   rw[List.length_append,bD,bD,List.length_drop]
   omega
  have hslo3:=pZ hR3 (i:=out.length) (by omega)
  rw[hlen3] at hslo3
  obtain ⟨h4,js,hcl,hR4,hjs,hT4⟩:=xh hR3 (i:=out.length) (by omega) (n:=ps.length - out.length) (c:=ps.length - out.length) (by rw[hlen3])
  have etk:(aX out++aX (ps.drop out.length)).take out.length=aX out:=by
   rw[List.take_left' (bD out)]
  rw[etk] at hR4
  rw[hlen3] at hjs
  have hlen4:(aX out++js).length=ps.length:=by
   rw[List.length_append,bD]
   omega
  have hshi:=xg (c0:=0) hR4 (i:=out.length) (by omega)
  rw[hlen4] at hshi
  have x4:Ext h0 h4:=((hT.trans hT4).ext (x0.toS (S:=fun _=>False)) hlo hfo).ext (fun _ _ c=>c)
  simp -dsimp only[go_sem,q0,q5,hslo3,bP,hcl,hshi,hr,Option.toList_some,Option.toList_none,List.cons_append,List.nil_append,List.append_nil,evList,Option.bind_some,Option.bind_none]
  rw[<-ho]
  refine ⟨x4,.inr ⟨b,f,js,by congr 1;omega,hR4,hlo,hfo⟩⟩
end
section
variable {h h0 h1 h2:Hp} {B F:Nat->Prop}
theorem oQ {N:Nat}:∀(l:Prs) (t:Tx),t.length=N->(∀p∈l,p.2.length=N)->l.Pairwise (fun a b=>d4 b.2 a.2=false)->(∀p∈l,d4 p.2 t=false) ->
  (ddP (some t) l).Pairwise (fun a b=>d4 a.2 b.2=true)/\∀q∈ddP (some t) l,d4 t q.2=true
 | [],t,_,_,_,_=>⟨List.Pairwise.nil,fun q hq=>by cases hq⟩
 | p::l,t,ht,hl,hs,hlt=>by
   rw[List.pairwise_cons] at hs
   have hpN:=hl p (.head _)
   have ih:=oQ l p.2 hpN (fun q hq=>hl q (.tail _ hq)) hs.2 (fun q hq=>hs.1 q hq)
   simp only[ddP]
   split
   ·rename_i c
    injection c with c
    rw[c]
    exact ih
   ·rename_i c
    have h1:d4 t p.2=true:=by
     cases h2:d4 t p.2 with
     | true=>rfl
     | false=>exact absurd (congrArg some (kU (by rw[ht,hpN]) h2 (hlt p (.head _)))) c
    refine ⟨List.pairwise_cons.2 ⟨ih.2,ih.1⟩,fun q hq => ?_⟩
    rcases mCo.1 hq with e|hq
    ·rw[e];exact h1
    ·have hqN:=hl q (.tail _ (m9 l _ q hq))
     exact fY (by rw[ht,hpN]) (by rw[hpN,hqN]) h1 (ih.2 q hq)
theorem sS {N:Nat} {l:Prs} (hl:∀p∈l,p.2.length=N) (hs:l.Pairwise (fun a b=>d4 b.2 a.2=false)):(ddP none l).Pairwise (fun a b=>d4 a.2 b.2=true):=by
 cases l with
 | nil=>exact List.Pairwise.nil
 | cons p l =>
   rw[List.pairwise_cons] at hs
   have ih:=oQ l p.2 (hl p (.head _)) (fun q hq=>hl q (.tail _ hq)) hs.2 (fun q hq=>hs.1 q hq)
   simp only[ddP]
   rw[if_neg (by simp)]
   exact List.pairwise_cons.2 ⟨ih.2,ih.1⟩
theorem rD:∀(l:Prs) (o:Option Tx) (t:Tx),t∈aK l->t∈aK (ddP o l)\/o=some t
 | p::l,o,t,h=>by
   simp only[aK,List.map_cons,mCo] at h
   simp only[ddP]
   split
   ·rename_i c
    rcases h with h|h
    ·exact .inr (by rw[c,h])
    ·rcases rD l (some p.2) t h with q|q
     ·exact .inl q
     ·exact .inr (c.trans q)
   ·rename_i c
    left
    rcases h with h|h
    ·rw[h];exact List.mem_map.2 ⟨p,.head _,rfl⟩
    ·rcases rD l (some p.2) t h with q|q
     ·obtain ⟨x,hx,e⟩:=List.mem_map.1 q
      exact List.mem_map.2 ⟨x,.tail _ hx,e⟩
     ·injection q with q
      exact List.mem_map.2 ⟨p,.head _,q⟩
theorem zb {v m:Value} {ps:Prs} {N:Nat} (k:LK h B F v ps) (hp:PrK h B F ps) (hl:∀p∈ps,p.2.length=N) (hN:N<=1000000) (hps:ps.length<=1000000) (hb:h.base<=h.next) (hcap:∀Q:List Tx,Q.Nodup->(∀t∈Q,t∈aK ps)->Q.length<=2000) :
  ∃w h1,Snd Tryz.prog 46 [m,v] h w h1/\Ext h h1/\∃qs,OwnC h1 h.next h.nfam w qs/\(∀q∈qs,q∈ps)/\aQ (aK qs)/\∀t,t∈aK qs<->t∈aK ps:=by
 obtain ⟨u1,h1,hs1,hx1,ho1⟩:=sP k hp hb hps
 obtain ⟨h2,ps',hs2,ho2,hperm,hsort,b,f,hT,hlo,hfo⟩:=Bz ho1 (fun p q=>(hp.v p q).ext hx1) hl hN hps
 have hx2:Ext h h2:=(hT.ext (hx1.toS (S:=fun _=>False)) hlo hfo).ext (fun _ _ c=>c)
 have hl':∀p∈ps',p.2.length=N:=fun p q=>hl p (hperm.mem_iff.1 q)
 obtain ⟨u3,h3,hs3,hx3,ho3⟩:=xi (h0:=h) hx2 ho2 (fun p q=>hp.v p (hperm.mem_iff.1 q)) hl' hN (by rw[hperm.length_eq];exact hps)
 have hstrict:=sS hl' hsort
 have hsub:∀q∈ddP none ps',q∈ps:=fun q hq=>hperm.mem_iff.1 (m9 _ _ q hq)
 have hSL:aQ (aK (ddP none ps')):=by
  unfold aQ aK
  rw[List.pairwise_map]
  refine hstrict.imp_of_mem ?_
  intro a b ha hb' hab
  unfold bW
  rw[if_pos (by rw[hl _ (hsub a ha),hl _ (hsub b hb')])]
  exact hab
 have hmem:∀t,t∈aK (ddP none ps')<->t∈aK ps:=by
  intro t
  constructor
  ·intro q
   obtain ⟨x,hx,rfl⟩:=List.mem_map.1 q
   exact List.mem_map.2 ⟨x,hsub x hx,rfl⟩
  ·intro q
   have:t∈aK ps':=by
    obtain ⟨x,hx,rfl⟩:=List.mem_map.1 q
    exact List.mem_map.2 ⟨x,hperm.mem_iff.2 hx,rfl⟩
   exact (rD ps' none t this).elim id (fun c=>by cases c)
 have hlen:(ddP none ps').length<=2000:=by
  rw[<-cj]
  exact hcap _ (bL hSL) (fun t q=>(hmem t).1 q)
 refine aL wf Tryz.func46 rfl rfl (n:=18) rfl (by kernel_rfl) rfl ?_
 intro a hn hg
 have hr:Tryz.f46.results.toList=[.tmp 4]:=rfl
 have g0:=hg 0
 have g1:=hg 1
 clear hg
 simp only[gC0,gC1] at g0 g1
 have hc0:decide ((2000:Int)<((ddP none ps').length:Int))=false:=dcF (by omega)
 simp -dsimp only[go_sem,g0,g1]
 refine ⟨_,_,hs1,_,_,hs2,_,_,hs3,?_⟩
 have hsh:∃A c,u3=.slice A (ddP none ps').length c/\spotless A=true:=by
  rcases ho3 with ⟨e,rfl⟩|⟨b,f,js,rfl,_⟩
  ·exact ⟨none,0,by rw[e];rfl,rfl⟩
  ·exact ⟨_,_,rfl,rfl⟩
 obtain ⟨A,c,rfl,_⟩:=hsh
 simp -dsimp only[go_sem,g0,g1,hc0,hr]
 exact ⟨hx3,_,ho3,hsub,hSL,hmem⟩
end
end Go.Ev.Z24
end
section
namespace Go.Ev.Z24
open Go.RowKit Go.Proofs
section
def Rk (E:Nat->Nat->Prop):Nat->Nat->Nat->Prop
 | 0,i,j=>E i j
 | k+1,i,j=>Rk E k i j\/(Rk E k i k/\Rk E k k j)
theorem kY {E:Nat->Nat->Prop}:∀(k m i j:Nat),m<k->Rk E k i m->Rk E k m j->Rk E k i j
 | 0,m,i,j,h,_,_=>absurd h (lNz _)
 | k+1,m,i,j,h,h1,h2=>by
   have e1:Rk E k i m\/(Rk E k i k/\Rk E k k m):=h1
   have e2:Rk E k m j\/(Rk E k m k/\Rk E k k j):=h2
   show Rk E k i j\/(Rk E k i k/\Rk E k k j)
   rcases Nat.lt_or_ge m k with hm|hm
   ·rcases e1 with e1|e1<;>rcases e2 with e2|e2
    ·exact .inl (kY k m i j hm e1 e2)
    ·exact .inr ⟨kY k m i k hm e1 e2.1,e2.2⟩
    ·exact .inr ⟨e1.1,kY k m k j hm e1.2 e2⟩
    ·exact .inr ⟨e1.1,e2.2⟩
   ·have:m=k:=by omega
    subst this
    have c1:Rk E m i m:=e1.elim id (fun q=>q.1)
    have c2:Rk E m m j:=e2.elim id (fun q=>q.2)
    exact .inr ⟨c1,c2⟩
theorem vw {E:Nat->Nat->Prop} {i j:Nat} (h:E i j):∀k,Rk E k i j
 | 0=>h
 | k+1=>.inl (vw h k)
def Sq (n:Nat) (M:List (List Bool)):Prop:=M.length=n/\∀L∈M,L.length=n
theorem Sq.row {n:Nat} {M:List (List Bool)} (h:Sq n M) {i:Nat} (hi:i<n):(M.getD i []).length=n:=by
 have hl:i<M.length:=by rw[h.1];exact hi
 have:M.getD i []=M[i]:=by simp[List.getD,gEl hl]
 rw[this]
 exact h.2 _ (List.getElem_mem hl)
theorem Sq.set {n:Nat} {M:List (List Bool)} (h:Sq n M) {i j:Nat} (hi:i<n) (v:Bool):Sq n (lW M i j v):=by
 refine ⟨by simp[lW,h.1],fun L hL => ?_⟩
 rcases List.mem_or_eq_of_mem_set hL with q|q
 ·exact h.2 L q
 ·rw[q,List.length_set]
  exact h.row hi
theorem sM {n:Nat} {M:List (List Bool)} (h:Sq n M) {i j:Nat} (hi:i<n) (hj:j<n) (v:Bool) (a b:Nat):bN (lW M i j v) a b=if i=a/\j=b then v else bN M a b:=by
 have hl:i<M.length:=by rw[h.1];exact hi
 have hr:=h.row hi
 unfold bN lW
 by_cases h1:i=a
 ·subst h1
  have e:(M.set i ((M.getD i []).set j v)).getD i []=(M.getD i []).set j v:=by simp[List.getD,hl]
  rw[e]
  generalize M.getD i []=L at hr
  by_cases h2:j=b
  ·subst h2
   simp[List.getD,hr,hj]
  ·simp[List.getD,List.getElem?_set,h2]
 ·simp[List.getD,List.getElem?_set,h1]
theorem sN {n:Nat} {M:List (List Bool)} (h:Sq n M) {k i j:Nat} (hi:i<n) (hj:j<n):Sq n (bw k i j M)/\(∀a b,bN M a b=true->bN (bw k i j M) a b=true)/\(bN M i k=true->bN M k j=true->bN (bw k i j M) i j=true):=by
 unfold bw
 refine ⟨h.set hi _,fun a b q => ?_,fun q1 q2 => ?_⟩
 ·rw[sM h hi hj]
  split
  ·rename_i c
   rw[c.1,c.2,q,Bool.true_or]
  ·exact q
 ·rw[sM h hi hj,if_pos ⟨rfl,rfl⟩,q1,q2]
  simp
theorem oL {n:Nat} {M0:List (List Bool)} {k i:Nat} (hi:i<n):∀(j0:Nat),j0<=n->∀M:List (List Bool),Sq n M->(∀a b,bN M0 a b=true->bN M a b=true) ->
  Sq n (bK (bw k i) j0 M)/\(∀a b,bN M a b=true->bN (bK (bw k i) j0 M) a b=true)/\∀j,j<j0->bN M0 i k=true->bN M0 k j=true->bN (bK (bw k i) j0 M) i j=true
 | 0,_,M,h,hg=>⟨h,fun _ _ q=>q,fun j hj=>absurd hj (lNz _)⟩
 | j0+1,hj0,M,h,hg=>by
   obtain ⟨s1,s2,s3⟩:=oL (k:=k) hi j0 (by omega) M h hg
   obtain ⟨t1,t2,t3⟩:=sN (k:=k) s1 hi (show j0<n by omega)
   refine ⟨t1,fun a b q=>t2 _ _ (s2 _ _ q),fun j hj q1 q2 => ?_⟩
   rcases Nat.lt_or_ge j j0 with c|c
   ·exact t2 _ _ (s3 j c q1 q2)
   ·have:j=j0:=by omega
    subst this
    exact t3 (s2 _ _ (hg _ _ q1)) (s2 _ _ (hg _ _ q2))
theorem kZ {n:Nat} {M0:List (List Bool)} {k:Nat} (h:Sq n M0):∀(i0:Nat),i0<=n ->
  Sq n (bK (fun i=>bK (bw k i) n) i0 M0)/\(∀a b,bN M0 a b=true->bN (bK (fun i=>bK (bw k i) n) i0 M0) a b=true)/\∀i j,i<i0->j<n->bN M0 i k=true->bN M0 k j=true->bN (bK (fun i=>bK (bw k i) n) i0 M0) i j=true
 | 0,_=>⟨h,fun _ _ q=>q,fun i j hi=>absurd hi (lNz _)⟩
 | i0+1,hi0=>by
   obtain ⟨s1,s2,s3⟩:=kZ (k:=k) h i0 (by omega)
   obtain ⟨t1,t2,t3⟩:=oL (k:=k) (M0:=M0) (show i0<n by omega) n (lRf _) _ s1 s2
   refine ⟨t1,fun a b q=>t2 _ _ (s2 _ _ q),fun i j hi hj q1 q2 => ?_⟩
   rcases Nat.lt_or_ge i i0 with c|c
   ·exact t2 _ _ (s3 i j c hj q1 q2)
   ·have:i=i0:=by omega
    subst this
    exact t3 j hj q1 q2
theorem iY {n:Nat} {M:List (List Bool)} {E:Nat->Nat->Prop} (h:Sq n M) (hE:∀i j,i<n->j<n->E i j->bN M i j=true):∀k,k<=n ->
  Sq n (bK (fun k=>bK (fun i=>bK (bw k i) n) n) k M)/\∀i j,i<n->j<n->Rk E k i j->bN (bK (fun k=>bK (fun i=>bK (bw k i) n) n) k M) i j=true
 | 0,_=>⟨h,hE⟩
 | k+1,hk=>by
   obtain ⟨s1,s2⟩:=iY h hE k (by omega)
   obtain ⟨t1,t2,t3⟩:=kZ (k:=k) s1 n (lRf _)
   refine ⟨t1,fun i j hi hj q => ?_⟩
   rcases q with q|⟨q1,q2⟩
   ·exact t2 _ _ (s2 i j hi hj q)
   ·exact t3 i j hi hj (s2 i k hi (by omega) q1) (s2 k j (by omega) hj q2)
theorem sO {α:Type} {p q:α->Bool} (hpq:∀x,p x=true->q x=true):∀{l:List α} {x:α},x∈l->p x=false->q x=true->l.countP p<l.countP q
 | y::l,x,hx,h1,h2=>by
   have mono:∀l:List α,l.countP p<=l.countP q:=fun l=>List.countP_mono_left fun z _ hz=>hpq z hz
   rw[List.countP_cons,List.countP_cons]
   rcases mCo.1 hx with e|hx
   ·subst e
    rw[h1,h2]
    have:=mono l
    simp
    omega
   ·have:=sO hpq hx h1 h2
    cases hy:p y with
    | true=>rw[hpq y hy];simpa using this
    | false =>
      simp
      omega
open Classical in
theorem Bx {n:Nat} {E:Nat->Nat->Prop} (hac:∀i,i<n->¬Rk E n i i):∃rk:Nat->Nat,(∀i,rk i<=n)/\∀i j,j<n->E i j->rk j<rk i:=by
 refine ⟨fun i=>(List.range n).countP fun j=>decide (Rk E n i j),fun i=>lTr List.countP_le_length (by simp),fun i j hj hE => ?_⟩
 have hij:=vw hE n
 refine sO (x:=j) (fun x hx => ?_) (List.mem_range.2 hj) (dcF (hac j hj)) (dcT hij)
 exact dcT (kY n j i x hj hij (dcO hx))
mutual
def stM (em:ByteArray->Bool):ad->ByteArray->Prop
 | ⟨d,t,l⟩,s=>(d.data.toList=[114,117,108,101]/\s=t)\/stL em (decide (d.data.toList=[115,101,113])) l s
def stL (em:ByteArray->Bool) (sq:Bool):List ad->ByteArray->Prop
 | [],_=>False
 | x::l,s=>stM em x s\/((sq && !cD em x)=false/\stL em sq l s)
end
theorem getD_set_true {l:List Bool} {i k:Nat} (h:l.getD k false=true):(l.set i true).getD k false=true:=by
 simp only[List.getD,List.getElem?_set] at h ⊢
 by_cases e:i=k
 ·subst e
  by_cases hl:i<l.length
  ·simp[hl]
  ·rw[List.getElem?_eq_none (by omega)] at h;cases h
 ·simp[e,h]
mutual
theorem pX (em:ByteArray->Bool) (ix:ByteArray->Nat) (k:Nat):∀(p:ad) (bs:List Bool),bs.getD k false=true->(du em ix p bs).getD k false=true
 | ⟨d,t,l⟩,bs,h=>by
   rw[du]
   refine jx em ix k _ l _ ?_
   split
   ·exact getD_set_true h
   ·exact h
theorem jx (em:ByteArray->Bool) (ix:ByteArray->Nat) (k:Nat) (sq:Bool):∀(l:List ad) (bs:List Bool),bs.getD k false=true->(bf em ix sq l bs).getD k false=true
 | [],bs,h=>by rw[bf];exact h
 | x::l,bs,h=>by
   rw[bf]
   split
   ·exact pX em ix k x bs h
   ·exact jx em ix k sq l _ (pX em ix k x bs h)
end
mutual
theorem ke (em:ByteArray->Bool) (ix:ByteArray->Nat) (s:ByteArray):∀(p:ad) (bs:List Bool),stM em p s->ix s<bs.length->(du em ix p bs).getD (ix s) false=true
 | ⟨d,t,l⟩,bs,h,hl=>by
   rw[stM] at h
   rw[du]
   rcases h with ⟨h1,h2⟩|h
   ·rw[if_pos h1]
    refine jx em ix _ _ l _ ?_
    subst h2
    simp[List.getD,hl]
   ·refine oM em ix s _ l _ h ?_
    split
    ·rw[List.length_set];exact hl
    ·exact hl
theorem oM (em:ByteArray->Bool) (ix:ByteArray->Nat) (s:ByteArray) (sq:Bool):∀(l:List ad) (bs:List Bool),stL em sq l s->ix s<bs.length->(bf em ix sq l bs).getD (ix s) false=true
 | [],bs,h,hl=>by rw[stL] at h;exact h.elim
 | x::l,bs,h,hl=>by
   rw[stL] at h
   rw[bf]
   rcases h with h|⟨h1,h⟩
   ·split
    ·exact ke em ix s x bs h hl
    ·exact jx em ix _ sq l _ (ke em ix s x bs h hl)
   ·rw[if_neg (by rw[h1];simp)]
    exact oM em ix s sq l _ h (by rw[bY];exact hl)
end
theorem CY {G:List ar} {em:List Bool} (hf:mI G em=true):∃rk:Nat->Nat,(∀i,rk i<=G.length)/\∀(i:Nat) (s:ByteArray),i<G.length->ae (nms G) s<G.length->stM (emf (nms G) em) (aZ G i) s->rk (ae (nms G) s)<rk i:=by
 have hsq:Sq G.length (G.map (gn G em)):=by
  refine ⟨by simp,fun L hL => ?_⟩
  obtain ⟨x,_,rfl⟩:=List.mem_map.1 hL
  unfold gn
  rw[bY,List.length_replicate]
 let E:Nat->Nat->Prop:=fun i j=>i<G.length/\∃s,ae (nms G) s=j/\stM (emf (nms G) em) (aZ G i) s
 have hE:∀i j,i<G.length->j<G.length->E i j->bN (G.map (gn G em)) i j=true:=by
  rintro i j hi hj ⟨_,s,rfl,h⟩
  unfold bN
  have e:(G.map (gn G em)).getD i []=gn G em G[i]:=by simp[List.getD,hi]
  rw[e]
  unfold gn
  have e2:aZ G i=G[i].body:=by unfold aZ;rw[gEl hi]
  rw[e2] at h
  exact ke _ _ s _ _ h (by rw[List.length_replicate];exact hj)
 obtain ⟨_,hw⟩:=iY hsq hE G.length (lRf _)
 have hac:∀i,i<G.length->¬Rk E G.length i i:=by
  intro i hi h
  have h1:=hw i i hi hi h
  have h2:bN (eO G em) i i=true:=h1
  unfold mI at hf
  have h3:(eT G em)[i]? = some true:=by
   unfold eT
   rw[List.getElem?_mapIdx,gEl hi,Option.map_some,h2,Bool.true_or]
  have:(eT G em).any (true == ·)=true:=List.any_eq_true.2 ⟨true,mOg h3,rfl⟩
  rw[this] at hf
  cases hf
 obtain ⟨rk,hrn,hrk⟩:=Bx hac
 exact ⟨rk,hrn,fun i s hi hs h=>hrk i _ hs ⟨hi,s,rfl,h⟩⟩
end
section
variable {G:List ar}
mutual
def plP (S:Nat->Prop) (ix:ByteArray->Nat):ad->Prop
 | ⟨d,t,l⟩=>¬(d.data.toList=[97,110,121]\/d.data.toList=[110,111,116])/\(d.data.toList=[114,117,108,101]->S (ix t))/\plL S ix l
def plL (S:Nat->Prop) (ix:ByteArray->Nat):List ad->Prop
 | []=>True
 | x::l=>plP S ix x/\plL S ix l
end
mutual
theorem oR {S S':Nat->Prop} {ix:ByteArray->Nat} (h:∀i,S i->S' i):∀p:ad,plP S ix p->plP S' ix p
 | ⟨d,t,l⟩,k=>by
   rw[plP] at k ⊢
   exact ⟨k.1,fun e=>h _ (k.2.1 e),sT h l k.2.2⟩
theorem sT {S S':Nat->Prop} {ix:ByteArray->Nat} (h:∀i,S i->S' i):∀l:List ad,plL S ix l->plL S' ix l
 | [],k=>by rw[plL];trivial
 | x::l,k=>by
   rw[plL] at k ⊢
   exact ⟨oR h x k.1,sT h l k.2⟩
end
def plT (S:Nat->Prop) (ix:ByteArray->Nat):iV->Prop
 | .part p=>plP S ix p
 | .kids l=>plL S ix l
def zc (nm:List ByteArray):iV->Prop
 | .part p=>ay nm p=true
 | .kids l=>b6 nm l=true
theorem mG {nm:List ByteArray} {d t:ByteArray} {l:List ad} (h:ay nm ⟨d,t,l⟩=true):b6 nm l=true/\aU nm d t l.length=true:=by
 rw[ay,Bool.and_eq_true] at h
 exact h
theorem fm {nm:List ByteArray} {x:ad} {l:List ad} (h:b6 nm (x::l)=true):ay nm x=true/\b6 nm l=true:=by
 rw[b6,Bool.and_eq_true] at h
 exact h
theorem vC {nm:List ByteArray} {d t:ByteArray} {n:Nat} (h:aU nm d t n=true) (hd:d.data.toList=[114,117,108,101]):n=0/\ae nm t<nm.length:=by
 unfold aU at h
 rw[if_neg (by rw[hd];decide),if_pos hd,Bool.and_eq_true] at h
 exact ⟨dcO h.1,dcO h.2⟩
theorem oS (t:ByteArray):eS G t=aZ G (ae (nms G) t):=rfl
def dd (s:List Bool) (i:Nat):Prop:=s.getD i false=true
theorem qc {s:List Bool} {i:Nat} (h:dd s i):i<s.length:=by
 unfold dd at h
 rcases Nat.lt_or_ge i s.length with c|c
 ·exact c
 ·simp[List.getD,List.getElem?_eq_none c] at h
theorem uJ {s:List Bool} {i j:Nat} (h:dd (s.set i true) j):dd s j\/j=i:=by
 unfold dd at h ⊢
 by_cases e:i=j
 ·exact .inr e.symm
 ·left
  simp only[List.getD,List.getElem?_set,if_neg e] at h ⊢
  exact h
theorem mM {s:List Bool} {i:Nat} (h:i<s.length):dd (s.set i true) i:=by simp[dd,List.getD,h]
theorem fa (hnG:∀(i:Nat) (x:ar),G[i]? = some x->ay (nms G) x.body=true) {i:Nat} (hi:i<G.length):ay (nms G) (aZ G i)=true:=by
 unfold aZ
 rw[gEl hi]
 exact hnG i _ (gEl hi)
theorem i5 (hnG:∀(i:Nat) (x:ar),G[i]? = some x->ay (nms G) x.body=true):∀(k:Nat) (t:iV) (s:List Bool) (o:Bool×List Bool),kQ G k t s=some o->o.1=true->zc (nms G) t->s.length=G.length ->
  o.2.length=G.length/\(∀i,dd s i->dd o.2 i)/\plT (dd o.2) (ae (nms G)) t/\∀j,dd o.2 j->dd s j\/plP (dd o.2) (ae (nms G)) (aZ G j)
 | 0,t,s,o,h,_,_,_=>by cases h
 | k+1,t,s,o,h,ho,hr,hl=>by
   have hnl:(nms G).length=G.length:=by simp[nms]
   match t with
   | .part ⟨d,t,l⟩ =>
     change fB G (kQ G k) (.part ⟨d,t,l⟩) s=some o at h
     unfold fB at h
     simp only[] at h
     obtain ⟨hrl,hk⟩:=mG hr
     split at h
     ·injection h with h
      subst h
      cases ho
     rename_i c1
     split at h
     ·rename_i c2
      obtain ⟨hl0,hix⟩:=vC hk c2
      have hln:l=[]:=List.length_eq_zero_iff.1 hl0
      subst hln
      split at h
      ·rename_i c3
       injection h with h
       subst h
       refine ⟨hl,fun i q=>q,?_,fun j q=>.inl q⟩
       show plP _ _ _
       rw[plP]
       exact ⟨c1,fun _=>c3,by rw[plL];trivial⟩
      ·rename_i c3
       rw[oS] at h
       obtain ⟨q1,q2,q3,q4⟩:=i5 hnG k _ _ o h ho (fa hnG (by omega)) (by rw[List.length_set];exact hl)
       refine ⟨q1,fun i q=>q2 i (by unfold dd at q ⊢;exact Go.Ev.Z24.getD_set_true q),?_,fun j q => ?_⟩
       ·show plP _ _ _
        rw[plP]
        exact ⟨c1,fun _=>q2 _ (mM (by omega)),by rw[plL];trivial⟩
       ·rcases q4 j q with c|c
        ·rcases uJ c with c|c
         ·exact .inl c
         ·right
          rw[c]
          exact q3
        ·exact .inr c
     ·rename_i c2
      obtain ⟨q1,q2,q3,q4⟩:=i5 hnG k _ _ o h ho hrl hl
      refine ⟨q1,q2,?_,q4⟩
      show plP _ _ _
      rw[plP]
      exact ⟨c1,fun e=>absurd e c2,q3⟩
   | .kids [] =>
     change some (true,s)=some o at h
     injection h with h
     subst h
     exact ⟨hl,fun i q=>q,by show plL _ _ _;rw[plL];trivial,fun j q=>.inl q⟩
   | .kids (x::l) =>
     change (kQ G k (.part x) s).bind _=some o at h
     rw[Option.bind_eq_some_iff] at h
     obtain ⟨r1,h1,h2⟩:=h
     obtain ⟨hx,hl2⟩:=fm hr
     split at h2
     ·rename_i c
      obtain ⟨q1,q2,q3,q4⟩:=i5 hnG k _ _ r1 h1 c hx hl
      obtain ⟨p1,p2,p3,p4⟩:=i5 hnG k _ _ o h2 ho hl2 q1
      refine ⟨p1,fun i q=>p2 i (q2 i q),?_,fun j q => ?_⟩
      ·show plL _ _ _
       rw[plL]
       exact ⟨oR p2 x q3,p3⟩
      ·rcases p4 j q with c|c
       ·rcases q4 j c with c|c
        ·exact .inl c
        ·exact .inr (oR p2 _ c)
       ·exact .inr c
     ·rename_i c
      injection h2 with h2
      subst h2
      exact absurd ho c
theorem fp {S:Nat->Prop} (hS:∀j,S j->plP S (ae (nms G)) (aZ G j)):∀(k:Nat) (t:iV) (s:List Bool) (o:Bool×List Bool),kQ G k t s=some o->plT S (ae (nms G)) t->o.1=true
 | 0,t,s,o,h,_=>by cases h
 | k+1,t,s,o,h,hp=>by
   match t with
   | .part ⟨d,t,l⟩ =>
     change fB G (kQ G k) (.part ⟨d,t,l⟩) s=some o at h
     unfold fB at h
     simp only[] at h
     have hp':plP S (ae (nms G)) ⟨d,t,l⟩:=hp
     rw[plP] at hp'
     split at h
     ·rename_i c;exact absurd c hp'.1
     split at h
     ·rename_i c2
      split at h
      ·injection h with h
       subst h
       rfl
      ·rw[oS] at h
       exact fp hS k _ _ o h (hS _ (hp'.2.1 c2))
     ·exact fp hS k _ _ o h hp'.2.2
   | .kids [] =>
     change some (true,s)=some o at h
     injection h with h
     subst h
     rfl
   | .kids (x::l) =>
     change (kQ G k (.part x) s).bind _=some o at h
     rw[Option.bind_eq_some_iff] at h
     obtain ⟨r1,h1,h2⟩:=h
     have hp':plL S (ae (nms G)) (x::l):=hp
     rw[plL] at hp'
     split at h2
     ·exact fp hS k _ _ o h2 hp'.2
     ·rename_i c
      exact absurd (fp hS k _ _ r1 h1 hp'.1) c
mutual
theorem Cm (hnG:∀(i:Nat) (x:ar),G[i]? = some x->ay (nms G) x.body=true) {c:Nat} (hH:∀(p:ad) (s:List Bool),cf s<c->s.length=G.length->ay (nms G) p=true->∃o,RunsQ G (.part p) s o/\o.2.length=G.length/\cf o.2<=cf s) :
  ∀(p:ad) (s:List Bool),cf s<=c->s.length=G.length->ay (nms G) p=true->∃o,RunsQ G (.part p) s o/\o.2.length=G.length/\cf o.2<=cf s
 | ⟨d,t,l⟩,s,hc,hl,hr=>by
   have hnl:(nms G).length=G.length:=by simp[nms]
   obtain ⟨hrl,hk⟩:=mG hr
   by_cases c1:d.data.toList=[97,110,121]\/d.data.toList=[110,111,116]
   ·exact ⟨_,oD c1,hl,lRf _⟩
   by_cases c2:d.data.toList=[114,117,108,101]
   ·obtain ⟨_,hix⟩:=vC hk c2
    cases hs:s.getD (ae (nms G) t) false with
    | true=>exact ⟨_,ry c1 c2 hs,hl,lRf _⟩
    | false =>
      have hlt:=gN hs (by omega)
      obtain ⟨o,h1,h2,h3⟩:=hH (eS G t) (s.set (ae (nms G) t) true) (by omega) (by rw[List.length_set];exact hl) (by rw[oS];exact fa hnG (by omega))
      exact ⟨o,mZ c1 c2 hs h1,h2,by omega⟩
   ·obtain ⟨o,h1,h2,h3⟩:=Cn hnG hH l s hc hl hrl
    exact ⟨o,kR c1 c2 h1,h2,h3⟩
theorem Cn (hnG:∀(i:Nat) (x:ar),G[i]? = some x->ay (nms G) x.body=true) {c:Nat} (hH:∀(p:ad) (s:List Bool),cf s<c->s.length=G.length->ay (nms G) p=true->∃o,RunsQ G (.part p) s o/\o.2.length=G.length/\cf o.2<=cf s) :
  ∀(l:List ad) (s:List Bool),cf s<=c->s.length=G.length->b6 (nms G) l=true->∃o,RunsQ G (.kids l) s o/\o.2.length=G.length/\cf o.2<=cf s
 | [],s,hc,hl,hr=>⟨_,j9,hl,lRf _⟩
 | x::l,s,hc,hl,hr=>by
   obtain ⟨hx,hrl⟩:=fm hr
   obtain ⟨⟨b,s1⟩,h1,h2,h3⟩:=Cm hnG hH x s hc hl hx
   cases b with
   | false=>exact ⟨_,rz h1,h2,h3⟩
   | true =>
     obtain ⟨o,p1,p2,p3⟩:=Cn hnG hH l s1 (by have:cf s1<=cf s:=h3;omega) h2 hrl
     exact ⟨o,rA h1 p1,p2,by have:cf s1<=cf s:=h3;omega⟩
end
theorem DI (hnG:∀(i:Nat) (x:ar),G[i]? = some x->ay (nms G) x.body=true):∀(c:Nat) (p:ad) (s:List Bool),cf s<c->s.length=G.length->ay (nms G) p=true->∃o,RunsQ G (.part p) s o/\o.2.length=G.length/\cf o.2<=cf s
 | 0,_,_,h,_,_=>absurd h (lNz _)
 | c+1,p,s,h,hl,hr=>Cm hnG (DI hnG c) p s (by omega) hl hr
theorem xj (hnG:∀(i:Nat) (x:ar),G[i]? = some x->ay (nms G) x.body=true) {rule:ByteArray} (hix:ae (nms G) rule<G.length) (h:PlR G rule true) :
  ∃S:Nat->Prop,S (ae (nms G) rule)/\(∀j,S j->j<G.length)/\(∀j,S j->plP S (ae (nms G)) (aZ G j))/\∀j,S j->PlQ G j true:=by
 obtain ⟨s,k,hk⟩:=h
 have hnl:(nms G).length=G.length:=by simp[nms]
 have hnf:∀j,¬dd (List.replicate G.length false) j:=by
  intro j hj
  unfold dd at hj
  rw[List.getD,List.getElem?_replicate] at hj
  split at hj<;>cases hj
 have hrr:zc (nms G) (.part (jT rule)):=by
  show ay (nms G) ⟨_,rule,[]⟩=true
  rw[ay,b6,Bool.true_and]
  unfold aU
  rw[if_neg (by decide),if_pos rfl,Bool.and_eq_true]
  exact ⟨rfl,dcT (by omega)⟩
 obtain ⟨h1,_,h3,h4⟩:=i5 hnG k _ _ _ hk rfl hrr (List.length_replicate ..)
 have hS:∀j,dd s j->plP (dd s) (ae (nms G)) (aZ G j):=fun j hj=>(h4 j hj).resolve_left (hnf j)
 refine ⟨dd s,?_,fun j hj=>by have:=qc hj;have e:s.length=G.length:=h1;omega,hS,fun j hj => ?_⟩
 ·have:plP (dd s) (ae (nms G)) ⟨_,rule,[]⟩:=h3
  rw[plP] at this
  exact this.2.1 rfl
 ·have hjl:j<G.length:=by have:=qc hj;have e:s.length=G.length:=h1;omega
  obtain ⟨⟨b,s2⟩,⟨k2,hk2⟩,_,_⟩:=DI hnG _ (aZ G j) (List.replicate G.length false) (lSs _) (List.length_replicate ..) (fa hnG hjl)
  have:b=true:=fp hS k2 _ _ _ hk2 (hS j hj)
  subst this
  exact ⟨s2,k2,hk2⟩
end
section
variable {G:List ar} {R:ByteArray->Tx->Prop} {S:Nat->Prop} {em:ByteArray->Bool} {ix:ByteArray->Nat}
mutual
theorem jz:∀p:ad,plP S ix p->(∀s,stM em p s->S (ix s)->R s []->em s=true)->mkM R p []->cD em p=true
 | ⟨d,t,l⟩,hp,hem,h=>by
   rw[plP] at hp
   rw[mkM] at h
   rw[cD]
   by_cases c1:d.data.toList=[105,115]
   ·rw[if_pos c1] at h;cases h
   rw[if_neg c1] at h ⊢
   rw[if_neg (fun c=>hp.1 (.inl c))]
   by_cases c2:d.data.toList=[114,117,108,101]
   ·rw[if_pos c2] at h ⊢
    exact hem t (by rw[stM];exact .inl ⟨c2,rfl⟩) (hp.2.1 c2) h
   rw[if_neg c2] at h ⊢
   by_cases c3:d.data.toList=[115,101,113]
   ·rw[if_pos c3] at h ⊢
    exact qd l hp.2.2 (fun s hs=>hem s (by rw[stM];right;rw[dcT c3];exact hs)) h
   rw[if_neg c3] at h ⊢
   by_cases c4:d.data.toList=[111,114]
   ·rw[if_pos c4] at h ⊢
    exact qe l hp.2.2 (fun s hs=>hem s (by rw[stM];right;rw[dcF c3];exact hs)) h
   rw[if_neg c4]
theorem qd:∀l:List ad,plL S ix l->(∀s,stL em true l s->S (ix s)->R s []->em s=true)->mkS R l []->eH em l=true
 | [],_,_,_=>by rw[eH]
 | x::l,hp,hem,h=>by
   rw[plL] at hp
   rw[mkS] at h
   obtain ⟨u,v,e,h1,h2⟩:=h
   have e1:=List.append_eq_nil_iff.1 e.symm
   rw[e1.1] at h1
   rw[e1.2] at h2
   have hx:=jz x hp.1 (fun s hs=>hem s (by rw[stL];exact .inl hs)) h1
   rw[eH,hx,Bool.true_and]
   exact qd l hp.2 (fun s hs=>hem s (by rw[stL,hx];exact .inr ⟨rfl,hs⟩)) h2
theorem qe:∀l:List ad,plL S ix l->(∀s,stL em false l s->S (ix s)->R s []->em s=true)->mkO R l []->eX em l=true
 | [],_,_,h=>by rw[mkO] at h;exact h.elim
 | x::l,hp,hem,h=>by
   rw[plL] at hp
   rw[mkO] at h
   rw[eX,Bool.or_eq_true]
   rcases h with h|h
   ·exact .inl (jz x hp.1 (fun s hs=>hem s (by rw[stL];exact .inl hs)) h)
   ·exact .inr (qe l hp.2 (fun s hs=>hem s (by rw[stL];exact .inr ⟨rfl,hs⟩)) h)
end
def LessR (R:ByteArray->Tx->Prop) (S:Nat->Prop) (ix:ByteArray->Nat) (n:Nat) (st:ByteArray->Prop) (t:ByteArray) (u:Tx):Prop:=R t u/\S (ix t)/\u.length<=n/\(u.length=n->st t)
theorem LessR.up {n m:Nat} {st st':ByteArray->Prop} (hn:n<=m) (hs:n=m->∀t,st t->st' t) (t:ByteArray) (u:Tx) (h:LessR R S ix n st t u):LessR R S ix m st' t u :=
 ⟨h.1,h.2.1,lTr h.2.2.1 hn,fun e=>by
  have h3:=h.2.2.1
  exact hs (by omega) t (h.2.2.2 (by omega))⟩
theorem zd {ws:List Tx} {u:Tx} (h:u∈ws):u.length<=ws.flatten.length:=by
 obtain ⟨a,b,rfl⟩:=List.append_of_mem h
 simp
 omega
mutual
theorem i6 (hem:∀s,S (ix s)->R s []->em s=true):∀(p:ad) (w:Tx),plP S ix p->mkM R p w->mkM (LessR R S ix w.length (stM em p)) p w
 | ⟨d,t,l⟩,w,hp,h=>by
   rw[plP] at hp
   rw[mkM] at h ⊢
   by_cases c1:d.data.toList=[105,115]
   ·rw[if_pos c1] at h ⊢;exact h
   rw[if_neg c1] at h ⊢
   by_cases c2:d.data.toList=[114,117,108,101]
   ·rw[if_pos c2] at h ⊢
    exact ⟨h,hp.2.1 c2,lRf _,fun _=>by rw[stM];exact .inl ⟨c2,rfl⟩⟩
   rw[if_neg c2] at h ⊢
   by_cases c3:d.data.toList=[115,101,113]
   ·rw[if_pos c3] at h ⊢
    exact kW (LessR.up (lRf _) (fun _ t k=>by rw[stM];right;rw[dcT c3];exact k)) l w (sU hem l w hp.2.2 h)
   rw[if_neg c3] at h ⊢
   have lift:∀t,stL em false l t->stM em ⟨d,t,l⟩ t\/True:=fun _ _=>.inr trivial
   have up:∀(t':ByteArray) (u:Tx),LessR R S ix w.length (stL em false l) t' u->LessR R S ix w.length (stM em ⟨d,t,l⟩) t' u :=
    LessR.up (lRf _) (fun _ t' k=>by rw[stM];right;rw[dcF c3];exact k)
   by_cases c4:d.data.toList=[111,114]
   ·rw[if_pos c4] at h ⊢
    exact gO up l w (oT hem l w hp.2.2 h)
   rw[if_neg c4] at h ⊢
   by_cases c5:d.data.toList=[111,112,116]
   ·rw[if_pos c5] at h ⊢
    exact h.elim .inl fun h=>.inr (gO up l w (oT hem l w hp.2.2 h))
   rw[if_neg c5] at h ⊢
   by_cases c6:d.data.toList=[109,97,110,121]
   ·rw[if_pos c6] at h ⊢
    exact sJ up l w (ze hem l w hp.2.2 h)
   rw[if_neg c6] at h ⊢
   exact h
theorem sU (hem:∀s,S (ix s)->R s []->em s=true):∀(l:List ad) (w:Tx),plL S ix l->mkS R l w->mkS (LessR R S ix w.length (stL em true l)) l w
 | [],w,_,h=>by rw[mkS] at h ⊢;exact h
 | x::l,w,hp,h=>by
   rw[plL] at hp
   rw[mkS] at h ⊢
   obtain ⟨u,v,rfl,h1,h2⟩:=h
   refine ⟨u,v,rfl,?_,?_⟩
   ·refine eK (LessR.up (by simp) (fun _ t k=>by rw[stL];exact .inl k)) x u (i6 hem x u hp.1 h1)
   ·refine kW (LessR.up (by simp) (fun e t k => ?_)) l v (sU hem l v hp.2 h2)
    have hu:u=[]:=by
     rw[List.length_append] at e
     exact List.length_eq_zero_iff.1 (by omega)
    subst hu
    rw[stL,jz x hp.1 (fun s _=>hem s) h1]
    exact .inr ⟨rfl,k⟩
theorem oT (hem:∀s,S (ix s)->R s []->em s=true):∀(l:List ad) (w:Tx),plL S ix l->mkO R l w->mkO (LessR R S ix w.length (stL em false l)) l w
 | [],w,_,h=>by rw[mkO] at h;exact h.elim
 | x::l,w,hp,h=>by
   rw[plL] at hp
   rw[mkO] at h ⊢
   rcases h with h|h
   ·exact .inl (eK (LessR.up (lRf _) (fun _ t k=>by rw[stL];exact .inl k)) x w (i6 hem x w hp.1 h))
   ·exact .inr (gO (LessR.up (lRf _) (fun _ t k=>by rw[stL];exact .inr ⟨rfl,k⟩)) l w (oT hem l w hp.2 h))
theorem ze (hem:∀s,S (ix s)->R s []->em s=true):∀(l:List ad) (w:Tx),plL S ix l->mkH R l w->mkH (LessR R S ix w.length (stL em false l)) l w
 | [],w,_,h=>by rw[mkH] at h ⊢;exact h
 | x::l,w,hp,h=>by
   rw[plL] at hp
   rw[mkH] at h ⊢
   obtain ⟨ws,hw,rfl⟩:=h
   refine ⟨ws,fun u hu => ?_,rfl⟩
   exact eK (LessR.up (zd hu) (fun _ t k=>by rw[stL];exact .inl k)) x u (i6 hem x u hp.1 (hw u hu))
end
structure Mkx (G:List ar) (most cap:Nat) (made:List (List Tx)) (em:List Bool) (S:Nat->Prop) (rk:Nat->Nat):Prop where
 fix:sL G most cap made
 found:Found G em
 eml:em.length=G.length
 lt:∀j,S j->j<G.length
 pl:∀j,S j->plP S (ae (nms G)) (aZ G j)
 plq:∀j,S j->PlQ G j true
 rkn:∀i,rk i<=G.length
 rank:∀(i:Nat) (s:ByteArray),S i->S (ae (nms G) s)->stM (emf (nms G) em) (aZ G i) s->rk (ae (nms G) s)<rk i
variable {most cap:Nat} {made:List (List Tx)} {emL:List Bool} {rk:Nat->Nat}
theorem Mkx.iff (k:Mkx G most cap made emL S rk) {t:ByteArray} (hS:S (ae (nms G) t)) (w:Tx):RM (nms G) made t w<->w.length<=most/\mkM (RM (nms G) made) (aZ G (ae (nms G) t)) w:=by
 have hl:=k.lt _ hS
 have hm:made[ae (nms G) t]? = some (made[ae (nms G) t]'(by rw[k.fix.len];exact hl)):=gEl _
 rw[<-k.fix.fix _ _ (k.plq _ hS) hm w]
 unfold RM
 simp[List.getD,hm]
theorem sV (nm:List ByteArray):∀(l:List ad) (i:Nat) (em:List Bool),(eu nm l i em).length=em.length/\∀k,em.getD k false=true->(eu nm l i em).getD k false=true
 | [],i,em=>⟨rfl,fun k h=>h⟩
 | p::l,i,em=>by
   simp only[eu]
   obtain ⟨h1,h2⟩:=sV nm l (i+1) (if (!em.getD i false&&cD (emf nm em) p)=true then em.set i true else em)
   refine ⟨?_,fun k h=>h2 k ?_⟩
   ·rw[h1];split<;>simp
   ·split
    ·exact Go.Ev.Z24.getD_set_true h
    ·exact h
theorem qf (nm:List ByteArray):∀(l:List ad) (i:Nat) (em:List Bool),eu nm l i em=em->i+l.length<=em.length->∀(k:Nat) (p:ad),l[k]? = some p->cD (emf nm em) p=true->em.getD (i+k) false=true
 | q::l,i,em,h,hl,k,p,hk,hm=>by
   simp only[eu] at h
   by_cases c:(!em.getD i false&&cD (emf nm em) q)=true
   ·rw[if_pos c] at h
    exfalso
    rw[Bool.and_eq_true] at c
    have h1:=(sV nm l (i+1) (em.set i true)).2 i (by simp only[List.length_cons] at hl;simp[List.getD,show i<em.length by omega])
    rw[h] at h1
    rw[h1] at c
    exact absurd c.1 (by simp)
   ·rw[if_neg c] at h
    cases k with
    | zero =>
      simp at hk
      subst hk
      rw[hm,Bool.and_true] at c
      simpa using c
    | succ k =>
      have:=qf nm l (i+1) em h (by simp only[List.length_cons] at hl;omega) k p (by simpa using hk) hm
      rw[show i+(k+1)=i+1+k by omega]
      exact this
theorem Mkx.emClosed (k:Mkx G most cap made emL S rk) {j:Nat} (hj:j<G.length) (h:cD (emf (nms G) emL) (aZ G j)=true):emL.getD j false=true:=by
 have:=qf (nms G) (G.map (·.body)) 0 emL k.found.2 (by rw[List.length_map,k.eml];omega) j (aZ G j) (by
  rw[List.getElem?_map,gEl hj]
  unfold aZ
  rw[gEl hj]
  rfl) h
 rwa[Nat.zero_add] at this
theorem Mkx.emSound (k:Mkx G most cap made emL S rk):∀(r:Nat) (s:ByteArray),S (ae (nms G) s)->rk (ae (nms G) s)<r->RM (nms G) made s []->emf (nms G) emL s=true
 | 0,s,_,h,_=>absurd h (lNz _)
 | r+1,s,hS,hr,h=>by
   have h2:=((k.iff hS []).1 h).2
   refine k.emClosed (k.lt _ hS) (jz (S:=S) (ix:=ae (nms G)) (em:=emf (nms G) emL) _ (k.pl _ hS) (fun t ht hSt hR => ?_) h2)
   exact k.emSound r t hSt (by have:=k.rank _ _ hS hSt ht;omega) hR
theorem Mkx.emOk (k:Mkx G most cap made emL S rk) (s:ByteArray) (hS:S (ae (nms G) s)) (h:RM (nms G) made s []):emf (nms G) emL s=true:=k.emSound _ s hS (lSs _) h
theorem Mkx.ind (k:Mkx G most cap made emL S rk) (Φ:Nat->Tx->Prop) (hΦ:∀j w,S j->w.length<=most->mkM (fun t u=>S (ae (nms G) t)/\Φ (ae (nms G) t) u) (aZ G j) w->Φ j w) :
  ∀(n r:Nat) (t:ByteArray) (w:Tx),S (ae (nms G) t)->w.length<n->(w.length+1=n->rk (ae (nms G) t)<r)->RM (nms G) made t w->Φ (ae (nms G) t) w:=by
 intro n
 induction n with
 | zero=>intro r t w _ h;exact absurd h (lNz _)
 | succ n ihn =>
   intro r
   induction r with
   | zero =>
     intro t w hS hw hr h
     by_cases c:w.length+1=n+1
     ·exact absurd (hr c) (lNz _)
     ·exact ihn (G.length+1) t w hS (by omega) (fun _=>by have:=k.rkn (ae (nms G) t);omega) h
   | succ r ihr =>
     intro t w hS hw hr h
     have h2:=(k.iff hS w).1 h
     refine hΦ _ w hS h2.1 (eK ?_ _ _ (i6 (em:=emf (nms G) emL) (fun s=>k.emOk s) _ w (k.pl _ hS) h2.2))
     intro t' u' q
     refine ⟨q.2.1,?_⟩
     by_cases c:w.length+1=n+1
     ·refine ihr t' u' q.2.1 (by have:=q.2.2.1;omega) (fun c2 => ?_) q.1
      have h5:=k.rank _ _ hS q.2.1 (q.2.2.2 (by omega))
      have:=hr c
      omega
     ·exact ihn (G.length+1) t' u' q.2.1 (by have:=q.2.2.1;omega) (fun _=>by have:=k.rkn (ae (nms G) t');omega) q.1
theorem Mkx.all (k:Mkx G most cap made emL S rk) (Φ:Nat->Tx->Prop) (hΦ:∀j w,S j->w.length<=most->mkM (fun t u=>S (ae (nms G) t)/\Φ (ae (nms G) t) u) (aZ G j) w->Φ j w) {t:ByteArray} {w:Tx} (hS:S (ae (nms G) t)) (h:RM (nms G) made t w):Φ (ae (nms G) t) w :=
 k.ind Φ hΦ (w.length+1) (G.length+1) t w hS (lSs _) (fun _=>by have:=k.rkn (ae (nms G) t);omega) h
end
end Go.Ev.Z24
end
section
namespace Go.Ev
open Go.RowKit
section
variable {P:Program} {ρ:Rho} {N:Bs} {h:Hp} {w:World} {a:Ev.A} {act:Act} {C:bI}
def dK (n m:Nat):Array Bool:=(List.replicate m true++List.replicate (n - m) false).toArray
theorem kz (n m i:Nat) (hm:m<=n):(dK n m).getD i false=decide (i<m):=by
 unfold dK
 simp only[Array.getD_eq_getD_getElem?,List.getElem?_toArray,List.getElem?_append,List.length_replicate,List.getElem?_replicate]
 by_cases h1:i<m
 ·simp[h1]
 ·simp only[if_neg h1]
  split<;>simp[h1]
inductive OT where
 | leaf
 | one (i:Nat) (t:OT)
 | two (i:Nat) (t:OT) (j:Nat) (u:OT)
def okT (ops:Array Oper):Nat->Array Bool->OT->Bool
 | 0,_,.leaf=>true
 | f+1,listed,.one i t=>match Region.ready .any ops listed with
   | [j]=>Nat.beq i j&&okT ops f (listed.setIfInBounds i true) t
   | _=>false
 | f+1,listed,.two i t j u=>match Region.ready .any ops listed with
   | [k,m]=>Nat.beq i k&&Nat.beq j m&&okT ops f (listed.setIfInBounds i true) t&&okT ops f (listed.setIfInBounds j true) u
   | _=>false
 | _,_,_=>false
def ui (P:Program) (ops:List Oper):OT->Ev.A->Hp->(Ev.A->Hp->Prop)->Prop
 | .leaf,a,h,K=>K a h
 | .one i t,a,h,K=>opt (ops[i]?) fun o=>mK P ops [o] a h fun a1 h1=>ui P ops t a1 h1 K
 | .two i t j u,a,h,K=>(opt (ops[i]?) fun o=>mK P ops [o] a h fun a1 h1=>ui P ops t a1 h1 K)/\opt (ops[j]?) fun o=>mK P ops [o] a h fun a1 h1=>ui P ops u a1 h1 K
def mW (ops:List Oper):Bool:=ops.all fun o=>o.guard.isNone
theorem uj {ops rS:Array Oper} {Q:Exit->Act->World->Prop} {i:Nat} {K:Act->World->Prop} {o:Oper} (h1:ops[i]? = some o) (h2:rS[i]? = some o) (hg:o.guard=none) (k:wpOp P rS Q i K act w):wpOp P ops Q i K act w:=by
 unfold wpOp at k ⊢
 rw[h2] at k
 rw[h1]
 simp only[Region.wanted,hg] at k ⊢
 simpa using k
theorem uk (W:WfP P) {n:Nat} {ops:Array Oper} {Q:Exit->Act->World->Prop} {K K2:Ev.A->Hp->Prop} (hg:mW ops.toList=true) (hd:ops.toList.all (fun o=>dL n o.dst)=true) {fuel i:Nat} {listed:Array Bool} (hi:i∈Region.ready .any ops listed)
  (next:(listed.setIfInBounds i true).size=ops.size->cnt (fun j=>(listed.setIfInBounds i true).getD j false) ops.size+fuel=ops.size->∀{ρ:Rho} {h:Hp} {w:World} {a:Ev.A} {act:Act},a.n=n->HR P ρ N h w->ActR ρ a act->K2 a h ->
   (∀a1 h1 ρ1 w1 act1,K a1 h1->a1.n=n->ρ.le ρ1->ActR ρ1 a1 act1->HR P ρ1 N h1 w1->Below N w w1->Q .normal act1 w1)->wpAny P .any ops Q fuel (listed.setIfInBounds i true) act w)
  (hsz:listed.size=ops.size) (hcnt:cnt (fun i=>listed.getD i false) ops.size+(fuel+1)=ops.size) {ρ:Rho} {h:Hp} {w:World} {a:Ev.A} {act:Act} (hn:a.n=n) (H:HR P ρ N h w) (HA:ActR ρ a act)
  (hk:opt (ops.toList[i]?) fun o=>mK P ops.toList [o] a h K2)
  (hQ:∀a1 h1 ρ1 w1 act1,K a1 h1->a1.n=n->ρ.le ρ1->ActR ρ1 a1 act1->HR P ρ1 N h1 w1->Below N w w1->Q .normal act1 w1):wpOp P ops Q i (wpAny P .any ops Q fuel (listed.setIfInBounds i true)) act w:=by
 obtain ⟨h1,o,ho,hdd⟩:=mem_ready.1 hi
 have hlt:i<ops.size:=(Array.getElem?_eq_some_iff.1 ho).1
 have hli:i<listed.size:=by omega
 have hOi:listed.getD i false=false:=by simpa[Array.getD,hli] using h1
 have hmem:o∈ops.toList:=by
  rw[Array.mem_toList_iff]
  exact Array.mem_of_getElem? ho
 have hgo:o.guard=none:=by
  have:=List.all_eq_true.1 hg o hmem
  simpa using this
 have hdo:dL n o.dst=true:=List.all_eq_true.1 hd o hmem
 obtain ⟨o',ho',hk⟩:=cX hk
 have:o'=o:=by
  rw[Array.getElem?_toList,ho] at ho'
  injection ho' with ho'
  exact ho'.symm
 subst this
 have hw:aW ops.toList a o'=true:=by simp only[aW,hgo]
 simp only[mK,hw,wif] at hk
 unfold wpOp
 rw[ho]
 simp only[Region.wanted,hgo]
 refine .inl (yf W (by simpa using hk) N ρ w act o' rfl H HA _ _ (fun v h1 ρ1 w1 v' q r1 r2 r3 r4 => ?_))
 refine next (by simp[hsz]) ?_ ((Ev.A.set_n _ _ _).trans hn) r3 ((HA.mono r1).put r2 (Ev.A.put_ok v hdo hn)) q (fun a1 h2 ρ2 w2 act2 q0 qn s1 s2 s3 s4=>hQ a1 h2 ρ2 w2 act2 q0 qn (Rho.le_trans r1 s1) s2 s3 (r4.trans s4))
 rw[mQ (f:=fun i=>listed.getD i false) (i:=i) hOi (by simp[hli]) (fun j hj=>getD_set_ne false (Ne.symm hj)) hlt]
 omega
theorem wM (W:WfP P) {n:Nat} {ops:Array Oper} {Q:Exit->Act->World->Prop} {K:Ev.A->Hp->Prop} (hg:mW ops.toList=true) (hd:ops.toList.all (fun o=>dL n o.dst)=true):∀(T:OT) (fuel:Nat) (listed:Array Bool),okT ops fuel listed T=true->listed.size=ops.size->cnt (fun i=>listed.getD i false) ops.size+fuel=ops.size ->
  ∀{ρ:Rho} {h:Hp} {w:World} {a:Ev.A} {act:Act},a.n=n->HR P ρ N h w->ActR ρ a act->ui P ops.toList T a h K ->
  (∀a1 h1 ρ1 w1 act1,K a1 h1->a1.n=n->ρ.le ρ1->ActR ρ1 a1 act1->HR P ρ1 N h1 w1->Below N w w1->Q .normal act1 w1)->wpAny P .any ops Q fuel listed act w:=by
 intro T
 induction T with
 | leaf =>
   intro fuel listed hT hsz hcnt ρ h w a act hn H HA hk hQ
   cases fuel with
   | succ f=>cases hT
   | zero =>
   have hall:=mP (f:=fun i=>listed.getD i false) (n:=ops.size) (by omega)
   refine ⟨?_,hQ a h ρ w act hk hn (Rho.le_refl ρ) HA H (Below.refl _ _)⟩
   cases hr:Region.ready .any ops listed with
   | nil=>rfl
   | cons i r =>
     have:i∈Region.ready .any ops listed:=by rw[hr];simp
     obtain ⟨h1,o,ho,_⟩:=mem_ready.1 this
     have hlt:i<ops.size:=(Array.getElem?_eq_some_iff.1 ho).1
     have h2:=hall i hlt
     have:i<listed.size:=by omega
     simp[Array.getD,this] at h1 h2
     rw[h1] at h2
     cases h2
 | one i t ih =>
   intro fuel listed hT hsz hcnt ρ h w a act hn H HA hk hQ
   cases fuel with
   | zero=>cases hT
   | succ f =>
   simp only[okT] at hT
   split at hT
   ·rename_i j hr
    rw[Bool.and_eq_true] at hT
    obtain ⟨hij,hT⟩:=hT
    have hij:i=j:=by simpa using hij
    subst hij
    refine ⟨fun e=>(by rw[hr] at e;cases e),fun k hki => ?_⟩
    have hki2:=hki
    rw[hr] at hki2
    have hki3:k=i:=by simpa using hki2
    subst hki3
    exact uk W hg hd hki (fun hsz2 hcnt2=>ih f _ hT hsz2 hcnt2) hsz hcnt hn H HA hk hQ
   ·cases hT
 | two i t j u iht ihu =>
   intro fuel listed hT hsz hcnt ρ h w a act hn H HA hk hQ
   cases fuel with
   | zero=>cases hT
   | succ f =>
   simp only[okT] at hT
   split at hT
   ·rename_i i' j' hr
    simp only[Bool.and_eq_true] at hT
    obtain ⟨⟨⟨hi,hj⟩,hTt⟩,hTu⟩:=hT
    have hi:i=i':=by simpa using hi
    have hj:j=j':=by simpa using hj
    subst hi;subst hj
    refine ⟨fun e=>(by rw[hr] at e;cases e),fun k hki => ?_⟩
    have hki2:=hki
    rw[hr] at hki2
    rcases mCo.1 hki2 with e|e
    ·subst e
     exact uk W hg hd hki (fun hsz2 hcnt2=>iht f _ hTt hsz2 hcnt2) hsz hcnt hn H HA hk.1 hQ
    ·have e:k=j:=by simpa using e
     subst e
     exact uk W hg hd hki (fun hsz2 hcnt2=>ihu f _ hTu hsz2 hcnt2) hsz hcnt hn H HA hk.2 hQ
   ·cases hT
theorem yr (W:WfP P) (HC:bO P C) {ops:Array Oper} {m:Nat} (hm:m<=ops.size) (hg:mW ops.toList=true) (hwait:∀i o,ops[i]? = some o->m<=i->∀j,j<m->∃e∈o.after,Region.binds .any e=true/\e.on=j) {st:Nat->A×Hp} {gs:List (Nat×Hp)}
  (c:gC P C false 0 (ops.extract 0 m) st gs) {Q:Exit->Act->World->Prop} :
  ∀(fuel:Nat) (listed:Array Bool) (b:A) (hp:Hp) (ρ:Rho) (w:World) (act:Act),listed.size=ops.size->(∀i,m<=i->listed.getD i false=false)->cnt (fun i=>listed.getD i false) m+fuel=m ->
  nG false (ops.extract 0 m) st (fun i=>listed.getD i false=true) b hp->HR P ρ N hp w->ActR ρ b act ->
  (∀ ρ1 w1 act1,ρ.le ρ1->ActR ρ1 (st m).1 act1->HR P ρ1 N (st m).2 w1->Below N w w1->wpAny P .any ops Q (ops.size - m) (dK ops.size m) act1 w1)->wpAny P .any ops Q (ops.size - m+fuel) listed act w:=by
 have hsz0:(ops.extract 0 m).size=m:=by simp;omega
 have hgetP:∀i,i<m->(ops.extract 0 m)[i]? = ops[i]? := by
  intro i hi
  rw[Array.getElem?_extract]
  simp[hi]
  intro h
  omega
 intro fuel
 induction fuel with
 | zero =>
   intro listed b hp ρ w act hsz hhi hcnt S H A hQ
   have hall:=mP (f:=fun i=>listed.getD i false) (n:=m) (by omega)
   have hL:listed=dK ops.size m:=by
    apply Array.ext
    ·rw[hsz];unfold dK;simp;omega
    ·intro i h1 h2
     have e1:listed.getD i false=listed[i]:=by simp[Array.getD,h1]
     have e2:(dK ops.size m).getD i false=(dK ops.size m)[i]:=by simp[Array.getD,h2]
     rw[<-e1,<-e2,kz _ _ _ hm]
     by_cases c1:i<m
     ·rw[hall i c1,dcT c1]
     ·rw[hhi i (by omega),dcF c1]
   rw[hL]
   refine hQ ρ w act (Rho.le_refl ρ) ?_ ?_ (Below.refl _ _)
   ·have hszz:=c.n_same m (by rw[hsz0];exact lRf _)
    refine ⟨fun t => ?_,?_,A.defers,?_⟩
    ·rw[<-S.get t m (by rw[hsz0];exact lRf _) (fun j o ho _=>⟨fun h=>hall j h,fun h=>by have:=S.inside j h;rw[hsz0] at this;exact this⟩)]
     exact A.get t
    ·rw[A.size,S.n,hszz]
    ·trivial
   ·obtain ⟨k,hk,heff,hhp⟩:=S.heap
    rw[hsz0] at hk
    have:=c.heap_same (k:=k) (m - k) (by rw[hsz0];omega) (fun j p hj1 hj2 hp=>by
     cases hpr:am false p.op with
     | true=>rfl
     | false =>
       have:=(heff j p hp hpr).2 (hall j (by omega))
       omega)
    rw[show k+(m - k)=m by omega] at this
    rw[this,<-hhp]
    exact H
 | succ fuel ih =>
   intro listed b hp ρ w act hsz hhi hcnt S H A hQ
   have hnot:∃i,i<m/\listed.getD i false=false:=by
    refine Classical.byContradiction fun hc => ?_
    have hall:∀i,i<m->listed.getD i false=true:=by
     intro i hi
     cases hl:listed.getD i false with
     | true=>rfl
     | false=>exact absurd ⟨i,hi,hl⟩ hc
    have:cnt (fun i=>listed.getD i false) m=cnt (fun _=>true) m:=gJ (fun j hj=>hall j hj)
    have h2:∀n,cnt (fun _=>true) n=n:=by
     intro n
     induction n with
     | zero=>rfl
     | succ n ih=>simp[cnt,ih]
    rw[this,h2] at hcnt
    omega
   refine ⟨fun hr => ?_,fun i hi => ?_⟩
   ·exfalso
    have all:∀i,i<m->listed.getD i false=true:=by
     intro i
     induction i using Nat.strongRecOn with
     | _ i ihi =>
       intro hi
       cases hl:listed.getD i false with
       | true=>rfl
       | false =>
         exfalso
         obtain ⟨o,ho⟩:∃o,ops[i]? = some o:=⟨ops[i],Array.getElem?_eq_getElem (by omega)⟩
         have:i∈Region.ready .any ops listed:=by
          rw[mem_ready]
          refine ⟨?_,o,ho,fun e he hb => ?_⟩
          ·have:i<listed.size:=by omega
           simpa[Array.getD,this] using hl
          ·have hlt:=c.ordered.edge i o (by rw[hgetP i hi];exact ho) e he hb
           exact ihi e.on hlt (by omega)
         rw[hr] at this
         cases this
    obtain ⟨i,hi,hl⟩:=hnot
    rw[all i hi] at hl
    cases hl
   ·obtain ⟨h1,o,ho,hdd⟩:=mem_ready.1 hi
    have hlt:i<ops.size:=(Array.getElem?_eq_some_iff.1 ho).1
    have hli:i<listed.size:=by omega
    have hOi:listed.getD i false=false:=by simpa[Array.getD,hli] using h1
    have him:i<m:=by
     rcases Nat.lt_or_ge i m with q|q
     ·exact q
     ·exfalso
      obtain ⟨j,hj,hl⟩:=hnot
      obtain ⟨e,he,hb,hon⟩:=hwait i o ho q j hj
      have:=hdd e he hb
      rw[hon,hl] at this
      cases this
    have hop:(ops.extract 0 m)[i]? = some o:=by rw[hgetP i him];exact ho
    have hgo:o.guard=none:=by
     have:=List.all_eq_true.1 hg o (by rw[Array.mem_toList_iff];exact Array.mem_of_getElem? ho)
     simpa using this
    obtain ⟨b',hp',hstep,S'⟩:=ko c S (O':=fun j=>(listed.setIfInBounds i true).getD j false=true) hop (by simp[hOi]) hdd (fun j=>by
     by_cases e:i=j
     ·subst e
      simp[hli]
     ·rw[getD_set_ne false e]
      simp[show ¬j=i from fun h=>e h.symm])
    have hpl:aP o.op=true\/am false o.op=false:=by
     cases hr:aP o.op with
     | true=>exact .inl rfl
     | false=>exact .inr (by simp[am,hr])
    rw[mg hpl] at hstep
    refine uj ho hop hgo (mN W HC H A hop hstep (fun ρ1 w1 act1 r1 r2 r3 r4 => ?_))
    show wpAny P .any ops Q (ops.size - m+fuel) _ act1 w1
    refine ih _ b' hp' ρ1 w1 act1 (by simp[hsz]) (fun j hj => ?_) ?_ S' r3 r2 (fun ρ2 w2 act2 s1 s2 s3 s4=>hQ ρ2 w2 act2 (Rho.le_trans r1 s1) s2 s3 (r4.trans s4))
    ·rw[getD_set_ne false (by omega)]
     exact hhi j hj
    ·rw[mQ (f:=fun i=>listed.getD i false) (i:=i) hOi (by simp[hli]) (fun j hj=>getD_set_ne false (Ne.symm hj)) him]
     omega
def CT (m:Nat) (ops:List Oper):Bool:=(ops.drop m).all fun o=>(List.range m).all fun j=>o.after.toList.any fun e=>Region.binds .any e&&Nat.beq e.on j
def kA (n m:Nat) (ps:List (List Nat)) (T:OT) (ops:List Oper):Bool:=match Nat.ble m ops.length,mW ops,CT m ops,gX n ps (ops.take m),ops.all (fun o=>dL n o.dst),okT ops.toArray (ops.length - m) (dK ops.length m) T with
 | true,true,true,true,true,true=>true
 | _,_,_,_,_,_=>false
def ul (P:Program) (ops:List Oper) (a:Ev.A) (h:Hp) (K:Ev.A->Hp->Prop):Prop:=∃C a1 h1,bO P C/\iG P C ops a h=some (a1,h1)/\a1.n=a.n/\K a1 h1
theorem yt (W:WfP P) {id:Nat} {ops:List Oper} {n m:Nat} {ps:List (List Nat)} {T:OT} {a:Ev.A} {h:Hp} {Q:Ex->Ev.A->Hp->Prop} (hn:a.n=n) (hs:kA n m ps T ops=true)
  (k:ul P (ops.take m) a h fun a1 h1=>ui P ops T a1 h1 (Q .normal)):Nd P (.region id ops.toArray true) a h Q:=by
 unfold kA at hs
 split at hs
 ·rename_i h1 h2 h3 h4 h5 h6
  have hm:m<=ops.length:=by simpa using h1
  obtain ⟨C,a1,hp1,HC,hdr,hn1,hk⟩:=k
  have hord:dp false (ops.take m)=true:=by
   unfold gX at h4
   split at h4
   ·assumption
   ·cases h4
  have hdr2:drawn P C false 0 (ops.toArray.extract 0 m).toList a h=some (a1,hp1):=by
   unfold iG at hdr
   rw[hord] at hdr
   simpa using hdr
  obtain ⟨st,gs,c,s0,s1⟩:=pD (ops:=ops.toArray.extract 0 m) trivial (by simpa using hord) hdr2
  have hsz0:(ops.toArray.extract 0 m).size=m:=by simp;omega
  rw[hsz0] at s1
  intro N ρ w act H A Qm hQ
  refine wp_region_any W.mixed ?_
  have hfuel:ops.toArray.size=ops.toArray.size - m+m:=by simp;omega
  rw[hfuel]
  have nope:∀j,(Array.replicate (ops.toArray.size - m+m) false).getD j false=false:=by
   intro j
   by_cases hj:j<(ops.toArray.size - m+m)<;>simp[Array.getD,hj]
  refine yr (N:=N) W HC (m:=m) (by simpa using hm) (by simpa using h2) ?_ c m _ a h ρ _ act (by simp;omega) (fun i _=>nope i) ?_ ?_ (H.drewn _) A ?_
  ·intro i o ho hi j hj
   have hmem:o∈ops.drop m:=by
    have:(ops.drop m)[i - m]? = some o:=by
     rw[List.getElem?_drop,show m+(i - m)=i by omega]
     simpa using ho
    exact mOg this
   have:=List.all_eq_true.1 h3 o hmem
   have:=List.all_eq_true.1 this j (List.mem_range.2 hj)
   obtain ⟨e,he,hb⟩:=List.any_eq_true.1 this
   rw[Bool.and_eq_true] at hb
   exact ⟨e,by simpa using he,hb.1,by simpa using hb.2⟩
  ·have:cnt (fun i=>(Array.replicate (ops.toArray.size - m+m) false).getD i false) m=cnt (fun _=>false) m:=gJ (fun j hj=>nope j)
   rw[this]
   have h0:∀n,cnt (fun _=>false) n=0:=by
    intro n
    induction n with
    | zero=>rfl
    | succ n ih=>simp[cnt,ih]
   rw[h0]
   omega
  ·have nope':∀j,¬(Array.replicate (ops.toArray.size - m+m) false).getD j false=true:=fun j e=>by rw[nope j] at e;cases e
   refine ⟨fun i o _ hi=>absurd hi (nope' i),fun i hi=>absurd hi (nope' i),by rw[s0],fun t k hk hall => ?_,0,by omega,fun j o _ _=>⟨fun h=>by omega,fun h=>absurd h (nope' j)⟩,by rw[s0]⟩
   have:=c.get_same (t:=t) (k:=0) k (by omega) (fun j o _ hj ho hod=>nope' j ((hall j o ho hod).1 (by omega)))
   rw[Nat.zero_add,s0] at this
   exact this.symm
  ·intro ρ1 w1 act1 r1 r2 r3 r4
   rw[s1] at r2 r3
   have hcnt:cnt (fun i=>(dK ops.toArray.size m).getD i false) ops.toArray.size+(ops.toArray.size - m)=ops.toArray.size:=by
    have e1:∀n,cnt (fun i=>decide (i<m)) n=min n m:=by
     intro n
     induction n with
     | zero=>simp[cnt]
     | succ n ih =>
       simp only[cnt,ih]
       by_cases c:n<m
       ·simp[c];omega
       ·simp[c];omega
    have e2:cnt (fun i=>(dK ops.toArray.size m).getD i false) ops.toArray.size=cnt (fun i=>decide (i<m)) ops.toArray.size:=gJ (fun j hj=>kz _ _ _ (by simpa using hm))
    rw[e2,e1]
    simp
    omega
   refine wM (n:=n) W (by simpa using h2) (by simpa using h5) T _ _ (by simpa using h6) (by unfold dK;simp;omega) hcnt (hn1.trans hn) r3 r2 (by simpa using hk) (fun a2 h2 ρ2 w2 act2 q qn s1 s2 s3 s4 => ?_)
   exact hQ .normal a2 h2 ρ2 w2 act2 q (qn.trans hn.symm) (Rho.le_trans r1 s1) s2 s3 (((Below.refl N.n w).drew.trans r4).trans s4)
 ·cases hs
theorem yu (W:WfP P) {ops:List Oper} {n m:Nat} {ps:List (List Nat)} {T:OT} {a:Ev.A} {h:Hp} {K:Ev.A->Hp->Prop} (hn:a.n=n) (hs:kA n m ps T ops=true) (a0:Ev.A) (h0:Hp) (hn0:a0.n=n) (hk:K a0 h0)
  (k:ul P (ops.take m) a h fun a1 h1=>ui P ops T a1 h1 fun a2 h2=>a2=a0/\h2=h0):pJ P ops a h K:=by
 refine .inr ⟨a0,h0,?_,hn0.trans hn.symm,hk⟩
 intro id N ρ w act H A Q hQ
 have:=yt (id:=id) (Q:=fun e a2 h2=>e=.normal/\a2=a0/\h2=h0) W hn hs (by
  obtain ⟨C,a1,h1,q1,q2,q3,q4⟩:=k
  refine ⟨C,a1,h1,q1,q2,q3,?_⟩
  have e:(fun a2 h2=>a2=a0/\h2=h0)=(fun (a2:Ev.A) (h2:Hp)=>Ex.normal=Ex.normal/\a2=a0/\h2=h0):=by
   funext a2 h2
   simp
  rw[<-e]
  exact q4)
 refine this N ρ w act H A Q (fun e a1 h1 ρ1 w1 act1 q qn r1 r2 r3 r4 => ?_)
 obtain ⟨rfl,rfl,rfl⟩:=q
 exact hQ ρ1 w1 act1 r1 r2 r3 r4
theorem wN {ops:List Oper} {n:Nat} {ps:List (List Nat)} {a:Ev.A} {h:Hp} {K:Ev.A->Hp->Prop} (hn:a.n=n) (ho:gX n ps ops=true) (k:DT P ops ps 0 ops [] [] [] a h K):ul P ops a h K:=by
 unfold gX at ho
 split at ho
 ·rename_i h1 h2 h3 hps
  obtain ⟨L,a1,h1',gs,q1,q2,q3,_,q5⟩:=ve h2 ops ps [] 0 (n:=n) rfl rfl h3 hn (fun _ hp=>by cases hp) (fun _ hp=>by cases hp) k
  obtain ⟨C,HC,hk⟩:=fD L q3
  obtain ⟨z1,z2⟩:=q5 C hk
  refine ⟨C,a1,h1',HC,?_,q1.trans hn.symm,q2⟩
  rw[List.nil_append] at z2
  simp only[iG,h1,drawn,z1,jZ (iK hps),z2]
 ·cases ho
theorem Tr.set_comm {α:Type}:∀(f g:Nat) (t:Tr α) (i j:Nat) (x y:α),i≠j->i+1<2 ^ f->j+1<2 ^ g->Tr.set f (Tr.set g t j y) i x=Tr.set g (Tr.set f t i x) j y
 | 0,_,_,i,_,_,_,_,h,_=>by simp at h
 | _+1,0,_,_,j,_,_,_,_,h=>by simp at h
 | f+1,g+1,t,i,j,x,y,hne,hi,hj=>by
   cases i with
   | zero =>
     cases j with
     | zero=>exact absurd rfl hne
     | succ j=>cases t<;>(simp only[Tr.set];cases hb:Nat.beq (j % 2) 0<;>simp only[hb])
   | succ i =>
     cases j with
     | zero=>cases t<;>(simp only[Tr.set];cases hb:Nat.beq (i % 2) 0<;>simp only[hb])
     | succ j =>
       have h1:i / 2+1<2 ^ f:=by rw[Nat.pow_succ] at hi;omega
       have h2:j / 2+1<2 ^ g:=by rw[Nat.pow_succ] at hj;omega
       cases hbi:Nat.beq (i % 2) 0<;>cases hbj:Nat.beq (j % 2) 0
       ·have e1:i % 2≠0:=by intro e;rw[e] at hbi;simp at hbi
        have e2:j % 2≠0:=by intro e;rw[e] at hbj;simp at hbj
        have ih:=fun t=>Tr.set_comm f g t (i / 2) (j / 2) x y (by omega) h1 h2
        cases t<;>simp only[Tr.set,hbi,hbj,ih]
       ·cases t<;>simp only[Tr.set,hbi,hbj]
       ·cases t<;>simp only[Tr.set,hbi,hbj]
       ·have e1:i % 2=0:=by simpa using hbi
        have e2:j % 2=0:=by simpa using hbj
        have ih:=fun t=>Tr.set_comm f g t (i / 2) (j / 2) x y (by omega) h1 h2
        cases t<;>simp only[Tr.set,hbi,hbj,ih]
theorem my (k:Nat):k+1<2 ^ (k+1)\/k=0:=by
 induction k with
 | zero=>exact .inr rfl
 | succ k ih =>
   left
   rw[Nat.pow_succ]
   have:1<=2 ^ (k+1):=Nat.one_le_two_pow
   rcases ih with h|h
   ·omega
   ·subst h;decide
theorem Tr.put_comm {α:Type} (t:Tr α) {i j:Nat} (x y:α) (h:i≠j):(t.put j y).put i x=(t.put i x).put j y:=by
 have go:∀(k:Nat) (t:Tr α) (v:α),t.put k v=Tr.set (k+2) t k v:=by
  intro k t v
  unfold Tr.put
  rcases my k with c|c
  ·have key:∀(f:Nat) (t:Tr α) (k:Nat),k+1<2 ^ f->Tr.set f t k v=Tr.set (f+1) t k v:=by
    intro f
    induction f with
    | zero=>intro t k h;simp at h
    | succ f ih =>
      intro t k hk
      cases k with
      | zero=>cases t<;>simp only[Tr.set]
      | succ k =>
        have h1:k / 2+1<2 ^ f:=by rw[Nat.pow_succ] at hk;omega
        cases t<;>(rw[Tr.set,Tr.set];cases hb:Nat.beq (k % 2) 0<;>simp only[hb,ih _ _ h1])
   exact key (k+1) t k c
  ·subst c
   cases t<;>simp only[Tr.set]
 have big:∀k:Nat,k+1<2 ^ (k+2):=by
  intro k
  rcases my k with c|c
  ·rw[Nat.pow_succ];omega
  ·subst c;decide
 rw[go i,go j,go j,go i]
 exact Tr.set_comm _ _ t i j x y h (big i) (big j)
theorem A.set_comm (a:Ev.A) {i j:Nat} (x y:Value) (h:i≠j):(a.set (some j) y).set (some i) x=(a.set (some i) x).set (some j) y:=by
 simp only[A.set,Tr.put_comm a.tmps x y h]
theorem Hp.put_comm (h:Hp) {i j:Nat} (x y:ak) (hne:i≠j):(h.put j y).put i x=(h.put i x).put j y:=by
 simp only[Hp.put,Tr.put_comm h.objs x y hne]
def sr (P:Program) (ops:List Oper) (T:OT) (a:Ev.A) (h:Hp) (K:Ev.A->Hp->Prop) (_:Tag ops) (_:Tag K):Prop:=ui P ops T a h K
section
attribute [local semireducible] Opt No Dw Dn DTt
theorem wO (ops:List Oper) (a:Ev.A) (h:Hp) (K:Ev.A->Hp->Prop) (t:Tag ops) (u:Tag K):sr P ops .leaf a h K t u=K a h:=nr rfl
theorem yv (ops:List Oper) (i:Nat) (T:OT) (a:Ev.A) (h:Hp) (K:Ev.A->Hp->Prop) (t:Tag ops) (u:Tag K):sr P ops (.one i T) a h K t u=Opt (ops[i]?) (fun o=>No P ops [o] a h (fun a1 h1=>sr P ops T a1 h1 K ⟨⟩ ⟨⟩) ⟨⟩ ⟨⟩ ⟨⟩) ⟨⟩:=nr rfl
theorem yw (ops:List Oper) (i:Nat) (T:OT) (j:Nat) (U:OT) (a:Ev.A) (h:Hp) (K:Ev.A->Hp->Prop) (t:Tag ops) (u:Tag K):sr P ops (.two i T j U) a h K t u =
 (sr P ops (.one i T) a h K ⟨⟩ ⟨⟩/\sr P ops (.one j U) a h K ⟨⟩ ⟨⟩):=nr rfl
theorem yx (W:WfP P) {ops:List Oper} {n:Nat} (m:Nat) (ps:List (List Nat)) (T:OT) {a:Ev.A} {h:Hp} {K:Ev.A->Hp->Prop} {t:Tag ops} {u:Tag K} (hn:a.n=n) (hs:kA n m ps T ops=true) (a0:Ev.A) (h0:Hp) (hn0:a0.n=n) (hk:K a0 h0)
  (k:DTt P (ops.take m) ps 0 (ops.take m) [] [] [] a h (fun a1 h1=>sr P ops T a1 h1 (fun a2 h2=>a2=a0/\h2=h0) ⟨⟩ ⟨⟩) ⟨⟩ ⟨⟩ ⟨⟩ ⟨⟩):Dw P ops a h K t u:=by
 refine yu W hn hs a0 h0 hn0 hk (wN hn ?_ k)
 unfold kA at hs
 split at hs
 ·assumption
 ·cases hs
end
attribute [irreducible] sr
end
end Go.Ev
end
section
namespace Go.Ev.Z24
open Go.RowKit Go.Proofs
section
variable {h h1 h2:Hp} {e sz n0 f0 lab:Nat} {FT FT':Nat->Nat}
def SlL (sz e lab:Nat) (h:Hp) (n0 f0:Nat) (FT:Nat->Nat) (v:Value) (cs:List Value):Prop:=(cs=[]/\v=.slice none 0 0)\/∃b f n,v=.slice (some ⟨b,0,none⟩) n n/\cs.length=n*sz/\bX e h b cs f/\n0<=b/\(f≠0->f0<=f/\FT (2*f)=lab)/\FT (2*b+1)=lab
abbrev SlE (sz e:Nat):=SlL sz e e
def blk:Value->Option Nat
 | .slice (some a) _ _=>some a.block
 | _=>none
structure Fr (B T:Nat->Prop) (FT:Nat->Nat) (h h1:Hp):Prop where
 base:h1.base=h.base
 ro:h1.ro=h.ro
 next:h.next<=h1.next
 nfam:h.nfam<=h1.nfam
 rows:∀e b cs f,bX e h b cs f->¬B b->(f≠0->¬T (FT (2*f)))->bX e h1 b cs f
 own:∀b e cs,h.own b e cs->¬B b->h1.own b e cs
 objs:∀b o,b<h.next->¬B b->h.objs.get b=some o->(∀r,o≠.cells r)->h1.objs.get b=some o
def Agree (h:Hp) (FT FT':Nat->Nat):Prop:=(∀q,q<h.nfam->FT' (2*q)=FT (2*q))/\∀b,b<h.next->FT' (2*b+1)=FT (2*b+1)
theorem Agree.refl (h:Hp):Agree h FT FT:=⟨fun _ _=>rfl,fun _ _=>rfl⟩
theorem Agree.trans {F1 F2 F3:Nat->Nat} (h0:Agree h F1 F2) (k:Agree h1 F2 F3) (hn:h.nfam<=h1.nfam) (hx:h.next<=h1.next):Agree h F1 F3:=⟨fun q hq=>(k.1 q (by omega)).trans (h0.1 q hq),fun q hq=>(k.2 q (by omega)).trans (h0.2 q hq)⟩
theorem Agree.less (k:Agree h1 FT FT') (x:Ext h h1):Agree h FT FT':=⟨fun q hq=>k.1 q (lTl hq x.nfam),fun q hq=>k.2 q (lTl hq x.next)⟩
def ExtN (n0 f0:Nat) (h h1:Hp):Prop:=∀(S:Nat->Prop) (h0:Hp),ExtS S h0 h->h0.next<=n0->h0.nfam<=f0->ExtS S h0 h1
theorem ExtN.trans (x:ExtN n0 f0 h h1) (y:ExtN n0 f0 h1 h2):ExtN n0 f0 h h2:=fun S h0 q q1 q2=>y S h0 (x S h0 q q1 q2) q1 q2
theorem ExtN.of (x:Ext h h1):ExtN n0 f0 h h1:=fun S h0 q _ _=>q.trans x.toS
variable {B T B' T':Nat->Prop}
theorem Fr.refl (h:Hp):Fr B T FT h h:=⟨rfl,rfl,lRf _,lRf _,fun _ _ _ _ k _ _=>k,fun _ _ _ k _=>k,fun _ _ _ _ k _=>k⟩
theorem Fr.trans (x:Fr B T FT h h1) (y:Fr B' T FT' h1 h2) (hF:Agree h FT FT') (hB:∀b,B' b->B b\/h.next<=b):Fr B T FT h h2:=by
 refine ⟨y.base.trans x.base,y.ro.trans x.ro,lTr x.next y.next,lTr x.nfam y.nfam,fun e b cs f k hb hf => ?_,fun b e cs k hb => ?_,fun b o hl hb k hc => ?_⟩
 ·refine y.rows e b cs f (x.rows e b cs f k hb hf) (fun c=>(hB b c).elim hb (fun q=>by have:=k.lt;omega)) (fun h0 => ?_)
  rw[hF.1 f (k.fl h0)]
  exact hf h0
 ·exact y.own b e cs (x.own b e cs k hb) (fun c=>(hB b c).elim hb (fun q=>by have:=k.2.1;omega))
 ·exact y.objs b o (lTl hl x.next) (fun c=>(hB b c).elim hb (fun q=>by omega)) (x.objs b o hl hb k hc) hc
theorem Fr.of (x:Ext h h1):Fr B T FT h h1:=⟨x.base,x.ro,x.next,x.nfam,fun e b cs f k _ _=>bR (x.toS (S:=fun _=>False)) k (fun c=>c),fun b e cs k _=>aj x k,fun b o hl _ k _=>by rw[x.objs b hl];exact k⟩
theorem Fr.ofS {S:Nat->Prop} (x:ExtS S h h1) (hS:∀b,S b->B b):Fr B T FT h h1:=⟨x.base,x.ro,x.next,x.nfam,fun e b cs f k hb _=>bR x k (fun c=>hb (hS b c)),fun b e cs k hb=>aJ x k (fun c=>hb (hS b c)),fun b o hl hb k _=>by rw[x.objs b hl (fun c=>hb (hS b c))];exact k⟩
theorem Fr.wide (x:Fr B T FT h h1) (hB:∀b,B b->B' b) (hT:∀b,T b->T' b):Fr B' T' FT h h1:=⟨x.base,x.ro,x.next,x.nfam,fun e b cs f k hb hf=>x.rows e b cs f k (fun c=>hb (hB b c)) (fun h0 c=>hf h0 (hT _ c)),fun b e cs k hb=>x.own b e cs k (fun c=>hb (hB b c)),fun b o hl hb k hc=>x.objs b o hl (fun c=>hb (hB b c)) k hc⟩
theorem RowTo.fr {b f:Nat} (x:RowTo h b f h1) (hF:f≠0->FT (2*f)=e):Fr (aR b) (· = e) FT h h1:=by
 refine ⟨x.base,x.ro,Nat.le_of_eq x.next.symm,Nat.le_of_eq x.nfam.symm,fun e' b' cs f' k hb hf => ?_,fun b' e' cs k hb=>⟨by rw[x.base];exact k.1,by rw[x.next];exact k.2.1,by rw[x.objs b' hb];exact k.2.2⟩,fun b' o hl hb k _=>by rw[x.objs b' hb];exact k⟩
 obtain ⟨bs,g,hr⟩:=k.row
 refine ⟨by rw[x.base];exact k.lo,by rw[x.next];exact k.lt,⟨bs,g,iZ hr (x.objs b' hb) (fun h0=>x.fams f' (fun c => ?_))⟩,fun c=>by rw[x.nfam];exact k.fl c⟩
 exact hf h0 (by rw[c.1];exact hF c.2)
theorem SlL.keep (x:Fr B T FT h h1) (hF:Agree h FT FT') {v:Value} {cs:List Value} (k:SlL sz e lab h n0 f0 FT v cs) (hb:∀b,blk v=some b->¬B b) (hT:¬T lab):SlL sz e lab h1 n0 f0 FT' v cs:=by
 rcases k with k|⟨b,f,n,rfl,hl,hr,h1,h2,h3⟩
 ·exact .inl k
 ·exact .inr ⟨b,f,n,rfl,hl,x.rows _ _ _ _ hr (hb b rfl) (fun h0=>by rw[(h2 h0).2];exact hT),h1,fun h0=>⟨(h2 h0).1,by rw[hF.1 f (hr.fl h0)];exact (h2 h0).2⟩,by rw[hF.2 b hr.lt];exact h3⟩
theorem SlL.len {v:Value} {cs:List Value} (k:SlL sz e lab h n0 f0 FT v cs):∃A n,v=.slice A n n/\cs.length=n*sz/\spotless A=true:=by
 rcases k with ⟨rfl,rfl⟩|⟨b,f,n,rfl,hl,_⟩
 ·exact ⟨none,0,rfl,by simp,rfl⟩
 ·exact ⟨_,n,rfl,hl,rfl⟩
theorem oU {b f:Nat} {cs:List Value} {e':TypeId} (hr:bX e' h b cs f) (h0:f≠0):∃l,h.fams.get f=some l:=by
 obtain ⟨bs,g,hrow⟩:=hr.row
 unfold Hp.row at hrow
 split at hrow
 ·rename_i r hg
  split at hrow
  ·rename_i e0
   injection hrow with hrow
   rw[hrow] at e0
   exact absurd e0 h0
  ·rename_i f0' e0
   split at hrow
   ·rename_i l hl0
    split at hrow
    ·injection hrow with hrow
     rw[hrow] at e0
     have e1:f=f0'+1:=e0
     exact ⟨l,by rw[e1];exact hl0⟩
    ·cases hrow
   ·cases hrow
 ·cases hrow
theorem na {t:TypeId} {z x v:Value} {m:Nat} {cs ds:List Value} (hu:Tryz.prog.underlying t=some (.slice e)) (hs:aA Tryz.prog e=some sz) (hz:bE Tryz.prog e=some z) (hzl:Nat.beq z.cells.toList.length sz=true/\0<sz)
  (hby:(match Tryz.prog.info? e with|some i=>Nat.ble i.bytes 100000&&Nat.blt 0 i.bytes|none=>false)=true) (hni:noInt Tryz.prog [t]=true) (k:SlL sz e lab h n0 f0 FT v cs) (hx:d7 x=some m) (hfx:bS h sz m x=some ds) (hm:0<m) (hdl:ds.length=m*sz) (hone:ds.all oneCell=true)
  (hb:h.base<=h.next) (hn0:n0<=h.next) (hf0:f0<=h.nfam) (hbig:cs.length+ds.length<=1000000) :
  ∃h' FT' n,cs.length=n*sz/\bt Tryz.prog h [t,t] [v,x]=some (.slice (some ⟨h.next,0,none⟩) (n+m) (n+m),h')/\SlL sz e lab h' n0 f0 FT' (.slice (some ⟨h.next,0,none⟩) (n+m) (n+m)) (cs++ds)/\Agree h FT FT'/\Fr (fun b=>blk v=some b) (· = lab) FT h h'/\ExtN n0 f0 h h'/\h.next<h'.next/\(∃f,bX e h' h.next (cs++ds) f/\(f≠0->f0<=f/\FT' (2*f)=lab)/\FT' (2*h.next+1)=lab):=by
 have hle:∀n:Nat,n<=n*sz:=fun n=>Nat.le_mul_of_pos_right n hzl.2
 rcases k with ⟨rfl,rfl⟩|⟨b,f,n,rfl,hl,hr,hb0,hf,_⟩
 ·have hx0:=Ext.new h (ak.cells { c:=ds,e:=e,fam:=0,base:=0,grown:=true })
  have hR:bX e (h.newH (ak.cells { c:=ds,e:=e,fam:=0,base:=0,grown:=true })) h.next ds 0:=by
   refine ⟨hb,lSs _,⟨0,true,?_⟩,fun e=>absurd rfl e⟩
   simp only[Hp.row,cW,if_true]
  refine ⟨h.newH (ak.cells { c:=ds,e:=e,fam:=0,base:=0,grown:=true }),fun q=>if q=2*h.next+1 then lab else FT q,0,by simp,?_,?_,⟨fun q hq=>by simp;omega,fun q hq=>by simp;omega⟩,Fr.of hx0,ExtN.of hx0,lSs _,0,hR,fun e=>absurd rfl e,by simp⟩
  ·rw[cQ hu hs hz hzl hby h (len:=0) (cap:=0) (n:=m) hx hfx (by have:=hle m;simp at hbig;omega) (lRf _) hone hdl hni]
   have:Nat.ble m 0=false:=dX (by omega)
   simp only[apd,Hp.grownRow,lG,Nat.zero_add,this]
  ·exact .inr ⟨h.next,0,0+m,rfl,by simp[hdl],hR,hn0,fun e=>absurd rfl e,by simp⟩
 ·obtain ⟨bs,g,hrow⟩:=hr.row
  have hld:h.loads ⟨b,0,none⟩ (n*sz)=some cs:=by
   rw[cB hr,List.drop_zero,<-hl]
   exact dB _
  have hc:Nat.ble (n+m) n=false:=dX (by omega)
  have hbeq:Nat.beq e e=true:=by simp
  have happ:bt Tryz.prog h [t,t] [.slice (some ⟨b,0,none⟩) n n,x]=apd h e sz (some ⟨b,0,none⟩) n n m ds :=
   cQ hu hs hz hzl hby h hx hfx (by have:=hle m;have:=hle n;omega) (lRf _) hone hdl hni
  have fin:∀(f':Nat) (h':Hp) (FT':Nat->Nat),apd h e sz (some ⟨b,0,none⟩) n n m ds=some (.slice (some ⟨h.next,0,none⟩) (n+m) (n+m),h')->bX e h' h.next (cs++ds) f'->(f'≠0->f0<=f'/\FT' (2*f')=lab)->FT' (2*h.next+1)=lab->Agree h FT FT'->h'.base=h.base->h'.ro=h.ro->h'.next=h.next+1->h.nfam<=h'.nfam->(∀y,y<h.next->y≠b->h'.objs.get y=h.objs.get y)->(∀q,q<h.nfam->¬(q=f/\f≠0)->h'.fams.get q=h.fams.get q) ->
    ∃h' FT' n',cs.length=n'*sz/\bt Tryz.prog h [t,t] [.slice (some ⟨b,0,none⟩) n n,x]=some (.slice (some ⟨h.next,0,none⟩) (n'+m) (n'+m),h')/\SlL sz e lab h' n0 f0 FT' (.slice (some ⟨h.next,0,none⟩) (n'+m) (n'+m)) (cs++ds)/\Agree h FT FT'/\Fr (fun b'=>blk (.slice (some ⟨b,0,none⟩) n n)=some b') (· = lab) FT h h'/\ExtN n0 f0 h h'/\h.next<h'.next/\(∃f,bX e h' h.next (cs++ds) f/\(f≠0->f0<=f/\FT' (2*f)=lab)/\FT' (2*h.next+1)=lab):=by
   intro f' h' FT' a1 a2 a3 a3b a4 e1 e2 e3 e4 e5 e6
   refine ⟨h',FT',n,hl,by rw[happ,a1],.inr ⟨h.next,f',n+m,rfl,by rw[List.length_append,hl,hdl,Nat.add_mul],a2,hn0,a3,a3b⟩,a4,?_,?_,by omega,f',a2,a3,a3b⟩
   ·refine ⟨e1,e2,by omega,e4,fun e' b' cs' f'' k hb' hf' => ?_,fun b' e' cs' k hb' => ?_,fun b' o hl' hb' k _ => ?_⟩
    ·have hbb:b'≠b:=fun c=>hb' (by rw[c];rfl)
     obtain ⟨bs',g',hr'⟩:=k.row
     refine ⟨by rw[e1];exact k.lo,by have:=k.lt;omega,⟨bs',g',iZ hr' (e5 b' k.lt hbb) (fun h0=>e6 f'' (k.fl h0) (fun c => ?_))⟩,fun c=>lTl (k.fl c) e4⟩
     exact hf' h0 (by rw[c.1];exact (hf c.2).2)
    ·have hbb:b'≠b:=fun c=>hb' (by rw[c];rfl)
     exact ⟨by rw[e1];exact k.1,by have:=k.2.1;omega,by rw[e5 b' k.2.1 hbb];exact k.2.2⟩
    ·have hbb:b'≠b:=fun c=>hb' (by rw[c];rfl)
     rw[e5 b' hl' hbb];exact k
   ·intro S h0 q q1 q2
    refine ⟨e1.trans q.base,e2.trans q.ro,by have:=q.next;omega,fun y hy hs' => ?_,lTr q.nfam e4,fun y hy => ?_⟩
    ·rw[e5 y (by have:=q.next;omega) (by omega)]
     exact q.objs y hy hs'
    ·rw[e6 y (by have:=q.nfam;omega) (fun c=>by have:=(hf c.2).1;omega)]
     exact q.fams y hy
  by_cases hfe:f=0
  ·subst hfe
   refine fin h.nfam { h with
    objs:=(h.objs.put b (.cells ⟨cs,e,h.nfam,bs,g⟩)).put h.next (.cells ⟨cs++ds,e,h.nfam,bs+0,true⟩)
    next:=h.next+1
    fams:=h.fams.put h.nfam (⟨h.next,bs+0,bs+0+(cs++ds).length⟩::ma b bs (bs+cs.length) (bs+0+n*sz))
    nfam:=h.nfam+1 } (fun q=>if q=2*h.nfam\/q=2*h.next+1 then lab else FT q) ?_ ?_ (fun _=>⟨hf0,by simp⟩) (by simp) ⟨fun q hq=>if_neg (by omega),fun q hq=>if_neg (by omega)⟩ rfl rfl rfl (Nat.le_succ _) ?_ ?_
   ·simp only[apd,hc,hrow,hld,gH,hbeq]
   ·refine ⟨by have:=hr.lo;have:=hr.lt;show h.base<=h.next;omega,lSs _,⟨bs+0,true,?_⟩,fun _=>lSs _⟩
    simp only[Hp.row,Tr.get_put,if_true]
    cases hnf:h.nfam with
    | zero=>rfl
    | succ q=>simp only[Tr.get_put,if_true,List.any_cons,dW,Bool.true_or]
   ·intro x hx hxb
    simp only[Tr.get_put,if_neg (Nat.ne_of_lt hx),if_neg hxb]
   ·intro q hq _
    simp only[Tr.get_put,if_neg (Nat.ne_of_lt hq)]
  ·obtain ⟨q0,rfl⟩:∃q0,f=q0+1:=⟨f - 1,by omega⟩
   obtain ⟨l,hl0⟩:=oU hr hfe
   refine fin (q0+1) { h with
    objs:=h.objs.put h.next (.cells ⟨cs++ds,e,q0+1,bs+0,true⟩)
    next:=h.next+1
    fams:=h.fams.put (q0+1) (⟨h.next,bs+0,bs+0+(cs++ds).length⟩::l.filter fun m=>Nat.ble m.hi (bs+0+n*sz)) } (fun q=>if q=2*h.next+1 then lab else FT q) ?_ ?_ (fun c=>⟨(hf c).1,(if_neg (by omega)).trans (hf c).2⟩) (by simp) ⟨fun q hq=>if_neg (by omega),fun q hq=>if_neg (by omega)⟩ rfl rfl rfl (lRf _) ?_ ?_
   ·simp only[apd,hc,hrow,hld,gH,hbeq,hl0]
   ·refine ⟨by have:=hr.lo;have:=hr.lt;show h.base<=h.next;omega,lSs _,⟨bs+0,true,?_⟩,fun e=>hr.fl e⟩
    simp only[Hp.row,Tr.get_put,if_true,List.any_cons,dW,Bool.true_or]
   ·intro x hx _
    simp only[Tr.get_put,if_neg (Nat.ne_of_lt hx)]
   ·intro q hq hqf
    have:¬q=q0+1:=fun e=>hqf ⟨e,by omega⟩
    simp only[Tr.get_put,if_neg this]
end
abbrev Tbl:=List (ad×List Nat)
def dx:ByteArray:=⟨#[115,101,113]⟩
def noT:ByteArray:=⟨#[]⟩
mutual
def bz:ad->Nat->Tbl
 | ⟨d,t,l⟩,n=>if d.data.toList=[115,101,113] then d8 d t l n else (⟨d,t,l⟩,cY l (n+1))::bB l (n+1)
def d8 (d t:ByteArray):List ad->Nat->Tbl
 | [],n=>[(⟨d,t,[]⟩,[])]
 | x::l,n=>match l with
   | []=>(⟨d,t,[x]⟩,[n+1])::bz x (n+1)
   | y::l'=>(⟨d,t,x::y::l'⟩,[n+1,n+1+(bz x (n+1)).length])::(bz x (n+1)++d8 dx noT l (n+1+(bz x (n+1)).length))
def bB:List ad->Nat->Tbl
 | [],_=>[]
 | x::l,n=>bz x n++bB l (n+(bz x n).length)
def cY:List ad->Nat->List Nat
 | [],_=>[]
 | x::l,n=>n::cY l (n+(bz x n).length)
end
theorem fq:∀(l:List ad) (n:Nat),(cY l n).length=l.length
 | [],_=>by rw[cY];rfl
 | x::l,n=>by rw[cY,List.length_cons,fq l,List.length_cons]
theorem qg:∀(l:List ad) (x:ad) (n:Nat),bB (l++[x]) n=bB l n++bz x (n+(bB l n).length)/\cY (l++[x]) n=cY l n++[n+(bB l n).length]
 | [],x,n=>by
   refine ⟨?_,?_⟩
   ·rw[List.nil_append,bB,bB,bB];simp
   ·rw[List.nil_append,cY,cY,cY,bB];simp
 | y::l,x,n=>by
   obtain ⟨h1,h2⟩:=qg l x (n+(bz y n).length)
   refine ⟨?_,?_⟩
   ·rw[List.cons_append,bB,h1,bB,List.append_assoc,List.length_append,Nat.add_assoc]
   ·rw[List.cons_append,cY,h2,cY,bB,List.length_append,List.cons_append,Nat.add_assoc]
inductive Num (tbl:Tbl):Nat->ad->Prop
 | two {k:Nat} {d t:ByteArray} {x y:ad} {l:List ad} {a b:Nat} (hd:d.data.toList=[115,101,113]) (h:tbl[k]? = some (⟨d,t,x::y::l⟩,[a,b])) (ha:Num tbl a x) (hb:Num tbl b ⟨dx,noT,y::l⟩):Num tbl k ⟨d,t,x::y::l⟩
 | kids {k:Nat} {d t:ByteArray} {l:List ad} {ks:List Nat} (hd:¬(d.data.toList=[115,101,113]/\1<l.length)) (h:tbl[k]? = some (⟨d,t,l⟩,ks)) (hl:ks.length=l.length) (hk:∀(i c:Nat) (q:ad),ks[i]? = some c->l[i]? = some q->Num tbl c q):Num tbl k ⟨d,t,l⟩
theorem Num.get {tbl:Tbl} {k:Nat} {p:ad} (h:Num tbl k p):∃ks,tbl[k]? = some (p,ks):=by
 cases h with
 | two _ h _ _=>exact ⟨_,h⟩
 | kids _ h _ _=>exact ⟨_,h⟩
theorem nc {T S X:Tbl} {x:ad×List Nat} {n:Nat} (hn:T.length=n):(T++x::S++X)[n]? = some x:=by
 subst hn
 rw[List.append_assoc,List.getElem?_append_right (lRf _),Nat.sub_self]
 rfl
mutual
theorem zf:∀(p:ad) (n:Nat) (T X:Tbl),T.length=n->Num (T++bz p n++X) n p
 | ⟨d,t,l⟩,n,T,X,hn=>by
   rw[bz]
   by_cases c:d.data.toList=[115,101,113]
   ·rw[if_pos c]
    exact Co d t c l n T X hn
   ·rw[if_neg c]
    refine .kids (fun q=>c q.1) (nc hn) (fq _ _) (fun i k q h1 h2 => ?_)
    have:=zg l (n+1) (T++[(⟨d,t,l⟩,cY l (n+1))]) X (by simp[hn]) i k q h1 h2
    simpa using this
theorem Co (d t:ByteArray) (hd:d.data.toList=[115,101,113]):∀(l:List ad) (n:Nat) (T X:Tbl),T.length=n->Num (T++d8 d t l n++X) n ⟨d,t,l⟩
 | [],n,T,X,hn=>by
   rw[d8]
   exact .kids (fun q=>absurd q.2 (by simp)) (nc hn) rfl (fun i k q h1 h2=>by simp at h1)
 | [x],n,T,X,hn=>by
   rw[d8]
   refine .kids (fun q=>absurd q.2 (by simp)) (nc hn) rfl (fun i k q h1 h2 => ?_)
   cases i with
   | zero =>
     simp at h1 h2
     subst h1;subst h2
     have:=zf x (n+1) (T++[(⟨d,t,[x]⟩,[n+1])]) X (by simp[hn])
     simpa using this
   | succ i=>simp at h1
 | x::y::l',n,T,X,hn=>by
   rw[d8]
   refine .two hd (nc hn) ?_ ?_
   ·have:=zf x (n+1) (T++[(⟨d,t,x::y::l'⟩,[n+1,n+1+(bz x (n+1)).length])]) (d8 dx noT (y::l') (n+1+(bz x (n+1)).length)++X) (by simp[hn])
    simpa using this
   ·have:=Co dx noT rfl (y::l') (n+1+(bz x (n+1)).length) (T++[(⟨d,t,x::y::l'⟩,[n+1,n+1+(bz x (n+1)).length])]++bz x (n+1)) X (by simp[hn];omega)
    simpa using this
theorem zg:∀(l:List ad) (n:Nat) (T X:Tbl),T.length=n->∀(i k:Nat) (q:ad),(cY l n)[i]? = some k->l[i]? = some q->Num (T++bB l n++X) k q
 | [],n,T,X,hn,i,k,q,h1,h2=>by simp at h2
 | x::l,n,T,X,hn,i,k,q,h1,h2=>by
   rw[cY] at h1
   rw[bB]
   cases i with
   | zero =>
     simp at h1 h2
     subst h1;subst h2
     have:=zf x n T (bB l (n+(bz x n).length)++X) hn
     simpa using this
   | succ i =>
     have:=zg l (n+(bz x n).length) (T++bz x n) X (by simp[hn]) i k q (by simpa using h1) (by simpa using h2)
     simpa using this
end
theorem qh (G:List ar) (i:Nat) (x:ar) (h:G[i]? = some x):∃k,(cY (G.map (·.body)) 0)[i]? = some k/\Num (bB (G.map (·.body)) 0) k x.body:=by
 have hl:=fq (G.map (·.body)) 0
 have hi:i<G.length:=(List.getElem?_eq_some_iff.1 h).1
 have hi2:i<(cY (G.map (·.body)) 0).length:=by rw[hl,List.length_map];exact hi
 refine ⟨_,gEl hi2,?_⟩
 have:=zg (G.map (·.body)) 0 [] [] rfl i _ x.body (gEl hi2) (by rw[List.getElem?_map,h];rfl)
 simpa using this
section
variable {r:Ro} {h h1 h2:Hp} {n0 f0 mb bk:Nat} {FT FT':Nat->Nat} {B T:Nat->Prop}
def fZ (ks:List Nat):List Value:=ks.map fun (k:Nat)=>Value.int .i64 (k:Int)
theorem k7 (ks:List Nat):(fZ ks).length=ks.length:=List.length_map _
def KidV (h:Hp) (n0 f0:Nat) (FT:Nat->Nat) (i:Nat) (v:Value) (ks:List Nat):Prop:=(ks=[]/\v=.slice none 0 0)\/(ks≠[]/\SlL 1 3 (100+i) h n0 f0 FT v (fZ ks))
def cL (bk:Nat) (lv rv x3 x4 x5 x6 x7:Value):List Value:=[.pointer (some ⟨bk,0,none⟩),lv,rv,x3,x4,x5,x6,x7]
structure Tab (r:Ro) (h:Hp) (n0 f0:Nat) (FT:Nat->Nat) (lv rv:Value) (tbl:Tbl):Prop where
 l:∃css:List (List Value),SlE 3 48 h n0 f0 FT lv css.flatten/\css.length=tbl.length/\∀(i:Nat) (p:ad) (ks:List Nat) (cs:List Value),tbl[i]? = some (p,ks)->css[i]? = some cs->RoPart r p cs
 rest:∃kvs:List Value,SlE 1 71 h n0 f0 FT rv kvs/\kvs.length=tbl.length/\∀(i:Nat) (p:ad) (ks:List Nat) (v:Value),tbl[i]? = some (p,ks)->kvs[i]? = some v->KidV h n0 f0 FT i v ks
theorem gz {b f f':Nat} {e e':TypeId} {cs cs':List Value} (k:bX e h b cs f) (k':bX e' h b cs' f'):e=e':=by
 obtain ⟨r1,h1,h2⟩:=je k
 obtain ⟨r2,h3,h4⟩:=je k'
 rw[h1] at h3
 injection h3 with h3
 injection h3 with h3
 rw[<-h2,<-h4,h3]
theorem b8 {b:Nat} {e:TypeId} {cs:List Value} (k:h.own b e cs):bX e h b cs 0:=⟨k.1,k.2.1,⟨0,false,by simp only[Hp.row,k.2.2]⟩,fun c=>absurd rfl c⟩
theorem SlL.ne {sz e lab:Nat} {v:Value} {cs:List Value} (k:SlL sz e lab h n0 f0 FT v cs) {b f:Nat} {e':TypeId} {cs':List Value} (k':bX e' h b cs' f) (hne:e≠e'):blk v≠some b:=by
 rcases k with ⟨_,rfl⟩|⟨b2,f2,n,rfl,hl,hr,_⟩
 ·exact fun c=>by cases c
 ·intro c
  injection c with c
  have c:b2=b:=c
  subst c
  exact hne (gz hr k')
theorem SlL.apart {sz e lab sz' e' lab':Nat} {v u:Value} {cs cs':List Value} (k:SlL sz e lab h n0 f0 FT v cs) (k':SlL sz' e' lab' h n0 f0 FT u cs') (hne:lab≠lab'):∀b,blk u=some b->blk v≠some b:=by
 intro b hb hc
 rcases k with ⟨_,rfl⟩|⟨b1,f1,n1,rfl,_,_,_,_,h1⟩
 ·cases hc
 rcases k' with ⟨_,rfl⟩|⟨b2,f2,n,rfl,hl,hr,_,_,h2⟩
 ·cases hb
 injection hb with hb
 injection hc with hc
 have hb:b2=b:=hb
 have hc:b1=b:=hc
 rw[hc] at h1
 rw[hb] at h2
 exact hne (h1.symm.trans h2)
theorem SlL.lt {sz e lab:Nat} {v:Value} {cs:List Value} (k:SlL sz e lab h n0 f0 FT v cs):∀b,blk v=some b->n0<=b/\b<h.next:=by
 intro b hb
 rcases k with ⟨_,rfl⟩|⟨b2,f2,n,rfl,hl,hr,h1,_⟩
 ·cases hb
 ·injection hb with hb
  have hb:b2=b:=hb
  subst hb
  exact ⟨h1,hr.lt⟩
theorem d9 (x:Fr B T FT h h1) (hF:Agree h FT FT') {sz e lab:Nat} {v:Value} {cs:List Value} (k:SlL sz e lab h n0 f0 FT v cs) (hB:∀b cs f,bX e h b cs f->n0<=b->¬B b) (hT:¬T lab):SlL sz e lab h1 n0 f0 FT' v cs:=by
 refine k.keep x hF (fun b hb => ?_) hT
 rcases k with ⟨_,rfl⟩|⟨b2,f2,n,rfl,hl,hr,q1,_⟩
 ·cases hb
 ·injection hb with hb
  have hb:b2=b:=hb
  subst hb
  exact hB _ _ _ hr q1
theorem KidV.keep (x:Fr B T FT h h1) (hF:Agree h FT FT') {i:Nat} {v:Value} {ks:List Nat} (k:KidV h n0 f0 FT i v ks) (hB:∀b cs f,bX 3 h b cs f->n0<=b->¬B b) (hT:ks≠[]->¬T (100+i)):KidV h1 n0 f0 FT' i v ks:=by
 rcases k with k|⟨k1,k2⟩
 ·exact .inl k
 ·exact .inr ⟨k1,d9 x hF k2 hB (hT k1)⟩
theorem KidV.len {i:Nat} {v:Value} {ks:List Nat} (k:KidV h n0 f0 FT i v ks):∃A,v=.slice A ks.length ks.length/\spotless A=true/\∀(j c:Nat),ks[j]? = some c->∃b,A=some ⟨b,0,none⟩/\h.load ⟨b,j,none⟩=some (.int .i64 (c:Int)):=by
 rcases k with ⟨rfl,rfl⟩|⟨k1,⟨e,rfl⟩|⟨b,f,n,rfl,hl,hr,_⟩⟩
 ·exact ⟨none,rfl,rfl,fun j c h=>by simp at h⟩
 ·exact absurd (List.map_eq_nil_iff.1 e) k1
 ·rw[k7,Nat.mul_one] at hl
  subst hl
  refine ⟨_,rfl,rfl,fun j c hj=>⟨b,rfl,?_⟩⟩
  rw[bV hr]
  unfold fZ
  rw[List.getElem?_map,hj]
  rfl
theorem Tab.keep (x:Fr B T FT h h1) (hF:Agree h FT FT') {lv rv:Value} {tbl:Tbl} (k:Tab r h n0 f0 FT lv rv tbl) (hB:∀b e cs f,bX e h b cs f->(e=48\/e=71\/e=3)->(n0<=b)->¬B b) (h48:¬T 48) (h71:¬T 71) (h3:∀(i:Nat) (p:ad) (ks:List Nat),tbl[i]? = some (p,ks)->ks≠[]->¬T (100+i)):Tab r h1 n0 f0 FT' lv rv tbl:=by
 obtain ⟨⟨css,a1,a2,a3⟩,kvs,b1,b2,b3⟩:=k
 exact ⟨⟨css,d9 x hF a1 (fun b cs f k=>hB b 48 cs f k (.inl rfl)) h48,a2,a3⟩,kvs,d9 x hF b1 (fun b cs f k=>hB b 71 cs f k (.inr (.inl rfl))) h71,b2,fun i p ks v q1 q2=>(b3 i p ks v q1 q2).keep x hF (fun b cs f k=>hB b 3 cs f k (.inr (.inr rfl))) (h3 i p ks q1)⟩
theorem zh {css:List (List Value)} (h3:∀c∈css,c.length=3):∀(i:Nat) (cs:List Value),css[i]? = some cs->bU (css.flatten.drop (i*3)) 3=some cs:=by
 induction css with
 | nil=>intro i cs h;simp at h
 | cons c css ih =>
   intro i cs h
   have hc:=h3 c (.head _)
   match c,hc with
   | [x,y,z],_ =>
     cases i with
     | zero =>
       simp at h
       subst h
       simp only[List.flatten_cons,Nat.zero_mul,List.drop_zero,List.cons_append,List.nil_append,bU]
     | succ i =>
       have:=ih (fun c hc=>h3 c (.tail _ hc)) i cs (by simpa using h)
       rw[List.flatten_cons,show (i+1)*3=i*3+3 by omega]
       simpa using this
theorem jA {css:List (List Value)} (h3:∀c∈css,c.length=3):css.flatten.length=css.length*3:=by
 induction css with
 | nil=>rfl
 | cons c css ih =>
   rw[List.flatten_cons,List.length_append,ih (fun c hc=>h3 c (.tail _ hc)),h3 c (.head _),List.length_cons]
   omega
theorem Tab.three {lv rv:Value} {tbl:Tbl} (k:Tab r h n0 f0 FT lv rv tbl):∃css:List (List Value),SlE 3 48 h n0 f0 FT lv css.flatten/\css.length=tbl.length/\(∀(i:Nat) (p:ad) (ks:List Nat) (cs:List Value),tbl[i]? = some (p,ks)->css[i]? = some cs->RoPart r p cs)/\∀c∈css,c.length=3:=by
 obtain ⟨css,a1,a2,a3⟩:=k.l
 refine ⟨css,a1,a2,a3,fun c hc => ?_⟩
 obtain ⟨i,hi⟩:=List.getElem?_of_mem hc
 have hlt:i<tbl.length:=by rw[<-a2];exact (List.getElem?_eq_some_iff.1 hi).1
 obtain ⟨Av,c',hs⟩:=(a3 i tbl[i].1 tbl[i].2 c (gEl hlt) hi).shape
 rw[hs]
 rfl
theorem Tab.get {lv rv:Value} {tbl:Tbl} (k:Tab r h n0 f0 FT lv rv tbl) {i:Nat} {p:ad} {ks:List Nat} (hi:tbl[i]? = some (p,ks)) :
  ∃b b2 n n2 v cs,lv=.slice (some ⟨b,0,none⟩) n n/\rv=.slice (some ⟨b2,0,none⟩) n2 n2/\n=tbl.length/\n2=tbl.length/\RoPart r p cs/\h.loads ⟨b,i*3,none⟩ 3=some cs/\h.load ⟨b2,i,none⟩=some v/\KidV h n0 f0 FT i v ks:=by
 obtain ⟨css,a1,a2,a3,a4⟩:=k.three
 obtain ⟨kvs,b1,b2,b3⟩:=k.rest
 have hlt:i<tbl.length:=(List.getElem?_eq_some_iff.1 hi).1
 have hc:css[i]? = some (css[i]'(by omega)):=gEl _
 have hk:kvs[i]? = some (kvs[i]'(by omega)):=gEl _
 rcases a1 with ⟨e,rfl⟩|⟨b,f,n,rfl,hl,hr,_⟩
 ·have:=jA a4
  rw[e] at this
  simp at this
  omega
 rcases b1 with ⟨e,rfl⟩|⟨b',f',n',rfl,hl',hr',_⟩
 ·rw[e] at b2
  simp at b2
  omega
 refine ⟨b,b',n,n',_,_,rfl,rfl,?_,by rw[Nat.mul_one] at hl';omega,a3 i p ks _ hi hc,?_,?_,b3 i p ks _ hi hk⟩
 ·have:=jA a4
  omega
 ·rw[cB hr]
  exact zh a4 i _ hc
 ·rw[bV hr',hk]
theorem Tab.lens {lv rv:Value} {tbl:Tbl} (k:Tab r h n0 f0 FT lv rv tbl):∃A A2,lv=.slice A tbl.length tbl.length/\rv=.slice A2 tbl.length tbl.length/\spotless A=true/\spotless A2=true:=by
 obtain ⟨css,a1,a2,a3,a4⟩:=k.three
 obtain ⟨kvs,b1,b2,b3⟩:=k.rest
 obtain ⟨A,n,e1,e2,e3⟩:=a1.len
 obtain ⟨A2,n2,e4,e5,e6⟩:=b1.len
 have:=jA a4
 have h1:n=tbl.length:=by omega
 have h2:n2=tbl.length:=by omega
 subst h1;subst h2
 exact ⟨A,A2,e1,e4,e3,e6⟩
end
section
variable {r:Ro} {h h1 h2:Hp} {n0 f0 mb bk:Nat} {FT FT':Nat->Nat} {lv rv x3 x4 x5 x6 x7:Value} {tbl:Tbl}
mutual
theorem fu:∀(p:ad) (n m:Nat),(bz p n).length=(bz p m).length
 | ⟨d,t,l⟩,n,m=>by
   rw[bz,bz]
   by_cases c:d.data.toList=[115,101,113]
   ·rw[if_pos c,if_pos c];exact oV d t l n m
   ·rw[if_neg c,if_neg c,List.length_cons,List.length_cons,oW l (n+1) (m+1)]
theorem oV (d t:ByteArray):∀(l:List ad) (n m:Nat),(d8 d t l n).length=(d8 d t l m).length
 | [],n,m=>by rw[d8,d8]
 | [x],n,m=>by rw[d8,d8,List.length_cons,List.length_cons,fu x (n+1) (m+1)]
 | x::y::l,n,m=>by
   rw[d8,d8,List.length_cons,List.length_cons,List.length_append,List.length_append,fu x (n+1) (m+1),oV dx noT (y::l) _ (m+1+(bz x (m+1)).length)]
theorem oW:∀(l:List ad) (n m:Nat),(bB l n).length=(bB l m).length
 | [],n,m=>by rw[bB,bB]
 | x::l,n,m=>by rw[bB,bB,List.length_append,List.length_append,fu x n m,oW l _ (m+(bz x m).length)]
end
theorem oX (p:ad) (n:Nat):0<(bz p n).length:=by
 obtain ⟨d,t,l⟩:=p
 rw[bz]
 split
 ·match l with
  | []=>rw[d8];simp
  | [x]=>rw[d8];simp
  | x::y::l=>rw[d8];simp
 ·simp
theorem sW:∀(l:List ad) (x:ad) (n:Nat),x∈l->(bz x 0).length<=(bB l n).length
 | y::l,x,n,h=>by
   rw[bB,List.length_append]
   rcases mCo.1 h with e|h
   ·rw[e,fu y n 0];omega
   ·have:=sW l x (n+(bz y n).length) h
    omega
def C1 (r:Ro) (n0 f0 mb bk:Nat) (x3 x4 x5 x6 x7:Value) (h:Hp) (FT:Nat->Nat) (lv rv:Value) (tbl S:Tbl) (h1:Hp):Prop:=∃FT' lv' rv',Agree h FT FT'/\h1.own mb 73 (cL bk lv' rv' x3 x4 x5 x6 x7)/\Tab r h1 n0 f0 FT' lv' rv' (tbl++S) /\
 Fr (fun b=>b=mb\/blk lv=some b\/blk rv=some b) (fun e=>e=48\/e=71\/100+tbl.length<=e) FT h h1/\ExtN n0 f0 h h1/\(∀b,blk lv'=some b->blk lv=some b\/h.next<=b)/\∀b,blk rv'=some b->blk rv=some b\/h.next<=b
def DJ (r:Ro) (n0 f0 mb bk:Nat) (x3 x4 x5 x6 x7:Value) (p:ad):Prop:=∀(h:Hp) (FT:Nat->Nat) (lv rv:Value) (tbl:Tbl) (cs:List Value),h.rom=r->h.base<=h.next->n0<=h.next->f0<=h.nfam->h.own mb 73 (cL bk lv rv x3 x4 x5 x6 x7)->Tab r h n0 f0 FT lv rv tbl ->
 RoPart r p cs->tbl.length+(bz p 0).length<=100000->∃v h1,Snd Tryz.prog 24 [.pointer (some ⟨mb,0,none⟩),.agg cs.toArray] h v h1/\v=.int .i64 (tbl.length:Int)/\C1 r n0 f0 mb bk x3 x4 x5 x6 x7 h FT lv rv tbl (bz p tbl.length) h1
theorem vD {x m:Nat} {o:ak} (hne:x≠m):(h.put m o).row x=h.row x:=by
 unfold Hp.row
 rw[bJ,if_neg hne]
 rfl
theorem sX {x o mb i:Nat} {e:TypeId} {c c' vs:List Value} {v:Value} (hM:h.own mb e c) (hc:[v].all oneCell=true) (hsp:bC c i [v]=some c') (hs:h.stores ⟨x,o,none⟩ vs=some h1) (hne:x≠mb) :
  ∃h2 h3,h1.stores ⟨mb,i,none⟩ [v]=some h2/\h.stores ⟨mb,i,none⟩ [v]=some h3/\h3.stores ⟨x,o,none⟩ vs=some h2/\(∀M,h1.own mb e M->M=c)/\h2=h1.put mb (.cells ⟨c',e,0,0,false⟩)/\h1.own mb e c:=by
 have s3:=aE hM hc hsp (by simp)
 cases vs with
 | nil =>
   simp only[Hp.stores,Option.some.injEq] at hs
   subst hs
   exact ⟨_,_,s3,s3,rfl,fun M k=>by have:=k.2.2;rw[hM.2.2] at this;injection this with this;injection this with this;injection this with q1;exact q1.symm,rfl,hM⟩
 | cons v0 vs0 =>
   simp only[Hp.stores] at hs
   split at hs
   ·cases hs
   ·rename_i hone
    split at hs
    ·cases hs
    ·rename_i rr hrow
     split at hs
     ·cases hs
     ·rename_i c2 hsp2
      have hown:∀F,({ h.put x (.cells { rr with c:=c2 }) with fams:=F }:Hp).own mb e c:=fun F=>⟨hM.1,hM.2.1,by
       show (h.put x _).objs.get mb=_
       rw[bJ,if_neg (Ne.symm hne)]
       exact hM.2.2⟩
      split at hs
      ·rename_i hf
       injection hs with hs
       subst hs
       have hM1:(h.put x (.cells { rr with c:=c2 })).own mb e c:=hown _
       refine ⟨_,_,aE hM1 hc hsp (by simp),s3,?_,fun M k=>by have:=k.2.2;rw[hM1.2.2] at this;injection this with this;injection this with this;injection this with q1;exact q1.symm,rfl,hM1⟩
       have hr3:(h.put mb (.cells ⟨c',e,0,0,false⟩)).row x=some rr:=by rw[vD hne];exact hrow
       simp only[Hp.stores,hone,hr3,hsp2,hf]
       rw[Hp.put_comm h _ _ hne]
      ·rename_i q hf
       split at hs
       ·cases hs
       ·rename_i l hl
        injection hs with hs
        subst hs
        have hM1:=hown (h.fams.put (q+1) (qN l x (rr.base+o) (rr.base+o+(v0::vs0).length)))
        refine ⟨_,_,aE hM1 hc hsp (by simp),s3,?_,fun M k=>by have:=k.2.2;rw[hM1.2.2] at this;injection this with this;injection this with this;injection this with q1;exact q1.symm,rfl,hM1⟩
        have hr3:(h.put mb (.cells ⟨c',e,0,0,false⟩)).row x=some rr:=by rw[vD hne];exact hrow
        have hl3:(h.put mb (.cells ⟨c',e,0,0,false⟩)).fams.get (q+1)=some l:=hl
        simp only[Hp.stores,hone,hr3,hsp2,hf,hl3]
        have:=congrArg Hp.objs (Hp.put_comm h (ak.cells { rr with c:=c2 }) (ak.cells ⟨c',e,0,0,false⟩) hne)
        simp only[Hp.put,hf] at this ⊢
        rw[this]
theorem zi {p:ad} {cs:List Value} {bx:Nat} (hmb:n0<=mb) (hb:h.base<=h.next) (hn0:n0<=h.next) (hf0:f0<=h.nfam) (hM:h.own mb 73 (cL bk lv rv x3 x4 x5 x6 x7)) (hT:Tab r h n0 f0 FT lv rv tbl) (hp:RoPart r p cs) (hbig:tbl.length+1<=100000)
  (hx:h.own bx 48 [.string ⟨#[]⟩,.string ⟨#[]⟩,.slice none 0 0]) :
  ∃h2 h3 h3' h4 FT',bt Tryz.prog h [46,46] [lv,.slice (some ⟨bx,0,none⟩) 1 1]=some (.slice (some ⟨h.next,0,none⟩) (tbl.length+1) (tbl.length+1),h2) /\
   h2.stores ⟨h.next,tbl.length*3,none⟩ cs=some h3/\h3.stores ⟨mb,1,none⟩ [.slice (some ⟨h.next,0,none⟩) (tbl.length+1) (tbl.length+1)]=some h4 /\
   h2.stores ⟨mb,1,none⟩ [.slice (some ⟨h.next,0,none⟩) (tbl.length+1) (tbl.length+1)]=some h3'/\h3'.stores ⟨h.next,tbl.length*3,none⟩ cs=some h4 /\
   Agree h FT FT'/\h4.own mb 73 (cL bk (.slice (some ⟨h.next,0,none⟩) (tbl.length+1) (tbl.length+1)) rv x3 x4 x5 x6 x7)/\Fr (fun b=>b=mb\/blk lv=some b) (fun e=>e=48) FT h h4/\ExtN n0 f0 h h4/\h.next<h4.next /\
   (∃css:List (List Value),SlE 3 48 h4 n0 f0 FT' (.slice (some ⟨h.next,0,none⟩) (tbl.length+1) (tbl.length+1)) css.flatten/\css.length=tbl.length+1/\∀(i:Nat) (q:ad) (ks:List Nat) (cs:List Value),(tbl++[(p,[])])[i]? = some (q,ks)->css[i]? = some cs->RoPart r q cs):=by
 obtain ⟨css,a1,a2,a3,a4⟩:=hT.three
 have hfl:=jA a4
 have hfx:bS h 3 1 (.slice (some ⟨bx,0,none⟩) 1 1)=some [.string ⟨#[]⟩,.string ⟨#[]⟩,.slice none 0 0]:=by
  simp only[bS,af hx,Nat.one_mul,List.drop_zero,bU]
 obtain ⟨h2,FT',n,hn,happ,hS,hA,hF,hE,hlt,f,hR,hRf⟩:=na (t:=46) (m:=1) Tryz.underlying46 vo DB ⟨rfl,by decide⟩ (by kernel_rfl) (by kernel_rfl) a1 rfl hfx (by decide) rfl rfl hb hn0 hf0 (by rw[hfl];simp;omega)
 have hnt:n=tbl.length:=by omega
 subst hnt
 obtain ⟨Av,c',hcs⟩:=hp.shape
 have hone:cs.all oneCell=true:=by rw[hcs];rfl
 have hsp:=dO css.flatten [.string ⟨#[]⟩,.string ⟨#[]⟩,.slice none 0 0] [] cs (by rw[hcs];rfl)
 rw[List.append_nil,List.append_nil,hfl,a2] at hsp
 obtain ⟨h3,hst,hR3,hT3⟩:=er hR hone hsp
 have hbmb:¬blk lv=some mb:=a1.ne (b8 hM) (by decide)
 have hM2:h2.own mb 73 (cL bk lv rv x3 x4 x5 x6 x7):=hF.own _ _ _ hM hbmb
 have hne:h.next≠mb:=by have:=hM.2.1;omega
 obtain ⟨h4,h3',q1,q2,q3,_,q4,q5⟩:=sX (v:=.slice (some ⟨h.next,0,none⟩) (tbl.length+1) (tbl.length+1)) (i:=1) (c':=cL bk (.slice (some ⟨h.next,0,none⟩) (tbl.length+1) (tbl.length+1)) rv x3 x4 x5 x6 x7) hM2 rfl rfl hst hne
 have hF3:Fr (aR h.next) (· = 48) FT' h2 h3:=hT3.fr (fun c=>(hRf.1 c).2)
 have hE4:ExtS (aR mb) h3 h4:=by
  rw[q4]
  exact (Ext.refl h3).toS.put (S:=aR mb) (b:=mb) (.inr rfl) _
 have hF4:Fr (aR mb) (fun _=>False) FT' h3 h4:=Fr.ofS hE4 (fun b c=>c)
 have hFall:Fr (fun b=>b=mb\/blk lv=some b) (fun e=>e=48) FT h h4:=by
  have F1:Fr (fun b=>b=mb\/blk lv=some b) (fun e=>e=48) FT h h2:=hF.wide (fun b c=>.inr c) (fun e c=>c)
  have F2:Fr (fun b=>b=mb\/blk lv=some b) (fun e=>e=48) FT h h3:=F1.trans hF3 hA (fun b c=>.inr (Nat.le_of_eq c.symm))
  exact F2.trans (hF4.wide (B':=aR mb) (fun b c=>c) (fun e c=>c.elim)) hA (fun b c=>.inl (.inl c))
 have hE3:ExtN n0 f0 h2 h3:=fun S h0 q q1 q2=>hT3.ext q (by omega) (fun c=>lTr q2 (hRf.1 c).1)
 have hEN4:ExtN n0 f0 h3 h4:=fun S h0 q p1 p2=>by
  rw[q4]
  exact ⟨q.base,q.ro,q.next,fun b hb' hs'=>by rw[bJ,if_neg (by omega)];exact q.objs b hb' hs',q.nfam,q.fams⟩
 refine ⟨h2,h3,h3',h4,FT',happ,hst,q1,q2,q3,hA,?_,hFall,(hE.trans hE3).trans hEN4,?_,?_⟩
 ·rw[q4]
  exact av q5 _
 ·have:=hFall.next
  rw[q4]
  show h.next<h3.next
  rw[hT3.next]
  exact hlt
 ·refine ⟨css++[cs],?_,by simp[a2],?_⟩
  ·have e1:(css++[cs]).flatten=css.flatten++cs:=by simp
   rw[e1]
   refine .inr ⟨h.next,f,tbl.length+1,rfl,?_,?_,hn0,hRf⟩
   ·rw[List.length_append,hfl,hcs]
    simp
    omega
   ·exact bR hE4 hR3 hne
  ·intro i q ks cs' g1 g2
   by_cases c:i<tbl.length
   ·rw[List.getElem?_append_left c] at g1
    rw[List.getElem?_append_left (by omega)] at g2
    exact a3 i q ks cs' g1 g2
   ·have hi:i=tbl.length:=by
     have:=(List.getElem?_eq_some_iff.1 g1).1
     simp at this
     omega
    subst hi
    rw[List.getElem?_append_right (lRf _)] at g1
    rw[List.getElem?_append_right (by omega)] at g2
    simp at g1
    rw[a2] at g2
    simp at g2
    rw[<-g1.1,<-g2]
    exact hp
end
section
variable {r:Ro} {h h1 h2:Hp} {n0 f0 mb bk:Nat} {FT FT':Nat->Nat} {lv rv x3 x4 x5 x6 x7:Value} {tbl:Tbl}
def LPart (r:Ro) (h:Hp) (n0 f0:Nat) (FT:Nat->Nat) (lv:Value) (tbl:Tbl):Prop:=∃css:List (List Value),SlE 3 48 h n0 f0 FT lv css.flatten/\css.length=tbl.length/\∀(i:Nat) (p:ad) (ks:List Nat) (cs:List Value),tbl[i]? = some (p,ks)->css[i]? = some cs->RoPart r p cs
def RPart (h:Hp) (n0 f0:Nat) (FT:Nat->Nat) (rv:Value) (tbl:Tbl):Prop:=∃kvs:List Value,SlE 1 71 h n0 f0 FT rv kvs/\kvs.length=tbl.length/\∀(i:Nat) (p:ad) (ks:List Nat) (v:Value),tbl[i]? = some (p,ks)->kvs[i]? = some v->KidV h n0 f0 FT i v ks
variable {B T:Nat->Prop}
theorem RPart.keep (x:Fr B T FT h h1) (hF:Agree h FT FT') (k:RPart h n0 f0 FT rv tbl) (hB:∀e b cs f,e=71\/e=3->bX e h b cs f->n0<=b->¬B b) (hT:¬T 71) (h3:∀(i:Nat) (p:ad) (ks:List Nat),tbl[i]? = some (p,ks)->ks≠[]->¬T (100+i)):RPart h1 n0 f0 FT' rv tbl:=by
 obtain ⟨kvs,b1,b2,b3⟩:=k
 exact ⟨kvs,d9 x hF b1 (fun b cs f=>hB 71 b cs f (.inl rfl)) hT,b2,fun i p ks v q1 q2=>(b3 i p ks v q1 q2).keep x hF (fun b cs f=>hB 3 b cs f (.inr rfl)) (h3 i p ks q1)⟩
theorem LPart.keep (x:Fr B T FT h h1) (hF:Agree h FT FT') (k:LPart r h n0 f0 FT lv tbl) (hB:∀b cs f,bX 48 h b cs f->n0<=b->¬B b) (hT:¬T 48):LPart r h1 n0 f0 FT' lv tbl:=by
 obtain ⟨css,b1,b2,b3⟩:=k
 exact ⟨css,d9 x hF b1 hB hT,b2,b3⟩
theorem zj {p:ad} {by':Nat} (hmb:n0<=mb) (hb:h.base<=h.next) (hn0:n0<=h.next) (hf0:f0<=h.nfam) (hM:h.own mb 73 (cL bk lv rv x3 x4 x5 x6 x7)) (hL:LPart r h n0 f0 FT lv (tbl++[(p,[])])) (hR:RPart h n0 f0 FT rv tbl) (hbig:tbl.length+1<=100000) (hx:h.own by' 71 [.slice none 0 0]) :
  ∃h2 h3 FT',bt Tryz.prog h [70,70] [rv,.slice (some ⟨by',0,none⟩) 1 1]=some (.slice (some ⟨h.next,0,none⟩) (tbl.length+1) (tbl.length+1),h2)/\h2.stores ⟨mb,2,none⟩ [.slice (some ⟨h.next,0,none⟩) (tbl.length+1) (tbl.length+1)]=some h3 /\
   Agree h FT FT'/\h3.own mb 73 (cL bk lv (.slice (some ⟨h.next,0,none⟩) (tbl.length+1) (tbl.length+1)) x3 x4 x5 x6 x7)/\Fr (fun b=>b=mb\/blk rv=some b) (fun e=>e=71) FT h h3/\ExtN n0 f0 h h3/\h.next<h3.next /\
   Tab r h3 n0 f0 FT' lv (.slice (some ⟨h.next,0,none⟩) (tbl.length+1) (tbl.length+1)) (tbl++[(p,[])]):=by
 obtain ⟨kvs,b1,b2,b3⟩:=hR
 have hfx:bS h 1 1 (.slice (some ⟨by',0,none⟩) 1 1)=some [.slice none 0 0]:=by
  simp only[bS,af hx,Nat.one_mul,List.drop_zero,bU]
 obtain ⟨h2,FT',n,hn,happ,hS,hA,hF,hE,hlt,f,hRr,hRf⟩:=na (t:=70) (m:=1) Tryz.underlying70 pN DC ⟨rfl,by decide⟩ (by kernel_rfl) (by kernel_rfl) b1 rfl hfx (by decide) rfl rfl hb hn0 hf0 (by simp;omega)
 have hnt:n=tbl.length:=by omega
 subst hnt
 have hbmb:¬blk rv=some mb:=b1.ne (b8 hM) (by decide)
 have hM2:h2.own mb 73 (cL bk lv rv x3 x4 x5 x6 x7):=hF.own _ _ _ hM hbmb
 have s3:=aE (o:=2) (vs:=[.slice (some ⟨h.next,0,none⟩) (tbl.length+1) (tbl.length+1)]) (c1:=cL bk lv (.slice (some ⟨h.next,0,none⟩) (tbl.length+1) (tbl.length+1)) x3 x4 x5 x6 x7) hM2 rfl rfl (by simp)
 have hne:h.next≠mb:=by have:=hM.2.1;omega
 have hE3:ExtS (aR mb) h2 (h2.put mb (.cells ⟨cL bk lv (.slice (some ⟨h.next,0,none⟩) (tbl.length+1) (tbl.length+1)) x3 x4 x5 x6 x7,73,0,0,false⟩)):=(Ext.refl h2).toS.put (S:=aR mb) (b:=mb) (.inr rfl) _
 have hF3:Fr (aR mb) (fun e=>e=71) FT' h2 (h2.put mb (.cells ⟨cL bk lv (.slice (some ⟨h.next,0,none⟩) (tbl.length+1) (tbl.length+1)) x3 x4 x5 x6 x7,73,0,0,false⟩)):=Fr.ofS hE3 (fun b c=>c)
 have hFa:Fr (fun b=>b=mb\/blk rv=some b) (fun e=>e=71) FT h (h2.put mb (.cells ⟨cL bk lv (.slice (some ⟨h.next,0,none⟩) (tbl.length+1) (tbl.length+1)) x3 x4 x5 x6 x7,73,0,0,false⟩)) :=
  (hF.wide (fun b c=>.inr c) (fun e c=>c)).trans hF3 hA (fun b c=>.inl (.inl c))
 refine ⟨h2,_,FT',happ,s3,hA,av hM2 _,hFa,hE.trans (fun S h0 q p1 p2 => ?_),hlt,⟨?_,?_⟩⟩
 ·exact ⟨q.base,q.ro,q.next,fun b hb' hs'=>by rw[bJ,if_neg (by omega)];exact q.objs b hb' hs',q.nfam,q.fams⟩
 ·exact hL.keep hFa hA (fun b cs f k _ c=>c.elim (fun c=>by rw[c] at k;exact absurd (gz k (b8 hM)) (by decide)) (fun c=>b1.ne k (by decide) c)) (by decide)
 ·refine ⟨kvs++[.slice none 0 0],?_,by simp[b2],fun i q ks v g1 g2 => ?_⟩
  ·refine .inr ⟨h.next,f,tbl.length+1,rfl,by rw[List.length_append,b2];simp,bR hE3 hRr hne,hn0,hRf⟩
  ·by_cases c:i<tbl.length
   ·rw[List.getElem?_append_left c] at g1
    rw[List.getElem?_append_left (by omega)] at g2
    exact (b3 i q ks v g1 g2).keep hFa hA (fun b cs f k _ c=>c.elim (fun c=>by rw[c] at k;exact absurd (gz k (b8 hM)) (by decide)) (fun c=>b1.ne k (by decide) c)) (fun _ c=>by omega)
   ·have hi:i=tbl.length:=by
     have:=(List.getElem?_eq_some_iff.1 g1).1
     simp at this
     omega
    subst hi
    rw[List.getElem?_append_right (lRf _)] at g1
    rw[List.getElem?_append_right (by omega)] at g2
    simp at g1
    rw[b2] at g2
    simp at g2
    have e1:ks=[]:=by
     rcases g1 with ⟨_,g1⟩
     first|exact g1|exact g1.symm
    subst e1
    subst g2
    exact .inl ⟨rfl,rfl⟩
theorem zk {p:ad} {S:Tbl} {ks:List Nat} {kv:Value} (hM:h.own mb 73 (cL bk lv rv x3 x4 x5 x6 x7)) (hT:Tab r h n0 f0 FT lv rv (tbl++(p,[])::S)) (hk:KidV h n0 f0 FT tbl.length kv ks) :
  ∃b2 n2 h1,rv=.slice (some ⟨b2,0,none⟩) n2 n2/\tbl.length<n2/\h.stores ⟨b2,tbl.length,none⟩ [kv]=some h1/\h1.own mb 73 (cL bk lv rv x3 x4 x5 x6 x7)/\Tab r h1 n0 f0 FT lv rv (tbl++(p,ks)::S)/\Fr (fun b=>blk rv=some b) (fun e=>e=71) FT h h1/\ExtN n0 f0 h h1:=by
 obtain ⟨kvs,b1,b2,b3⟩:=hT.rest
 have hL:LPart r h n0 f0 FT lv (tbl++(p,[])::S):=hT.l
 have b1':=b1
 rcases b1 with ⟨e,rfl⟩|⟨rb,f,n,rfl,hl,hr,hlo,hfo,hbo⟩
 ·rw[e] at b2
  simp at b2
 have hn:n=kvs.length:=by omega
 have hlt:tbl.length<kvs.length:=by rw[b2];simp
 have hone:[kv].all oneCell=true:=by
  obtain ⟨A,rfl,_⟩:=hk.len
  rfl
 have hsp:=dO (kvs.take tbl.length) [kvs[tbl.length]] (kvs.drop (tbl.length+1)) [kv] rfl
 have e1:kvs.take tbl.length++[kvs[tbl.length]]++kvs.drop (tbl.length+1)=kvs:=by
  rw[List.append_assoc,List.singleton_append,<-List.drop_eq_getElem_cons hlt,List.take_append_drop]
 have e3:kvs.take tbl.length++[kv]++kvs.drop (tbl.length+1)=kvs.set tbl.length kv:=by
  rw[List.set_eq_take_append_cons_drop,if_pos hlt,List.append_assoc]
  rfl
 rw[e1,e3,List.length_take,Nat.min_eq_left (Nat.le_of_lt hlt)] at hsp
 obtain ⟨h1,hst,hR1,hT1⟩:=er hr hone hsp
 have hF:Fr (aR rb) (· = 71) FT h h1:=hT1.fr (fun c=>(hfo c).2)
 have hF2:Fr (fun b=>blk (.slice (some ⟨rb,0,none⟩) n n)=some b) (fun e=>e=71) FT h h1:=hF.wide (fun b c=>by rw[c];rfl) (fun e c=>c)
 refine ⟨rb,n,h1,rfl,by omega,hst,hF2.own _ _ _ hM (b1'.ne (b8 hM) (by decide)),⟨?_,?_⟩,hF2,fun S' h0 q q1 q2=>hT1.ext q (by omega) (fun c=>by have:=(hfo c).1;omega)⟩
 ·obtain ⟨css,c1,c2,c3⟩:=hL
  refine ⟨css,d9 hF2 (Agree.refl _) c1 (fun b cs f k _ c=>b1'.ne k (by decide) c) (by decide),by rw[c2];simp,fun i q ks' cs g1 g2 => ?_⟩
  by_cases c:i=tbl.length
  ·subst c
   rw[List.getElem?_append_right (lRf _),Nat.sub_self] at g1
   simp at g1
   rw[<-g1.1]
   exact c3 tbl.length p [] cs (by rw[List.getElem?_append_right (lRf _),Nat.sub_self];rfl) g2
  ·have:(tbl++(p,[])::S)[i]? = some (q,ks'):=by
    rw[<-g1]
    rcases Nat.lt_or_ge i tbl.length with c1|c1
    ·rw[List.getElem?_append_left c1,List.getElem?_append_left c1]
    ·rw[List.getElem?_append_right c1,List.getElem?_append_right c1,show i - tbl.length=(i - tbl.length - 1)+1 by omega]
     rfl
   exact c3 i q ks' cs this g2
 ·refine ⟨_,.inr ⟨rb,f,n,rfl,?_,hR1,hlo,hfo,hbo⟩,?_,fun i q ks' v g1 g2 => ?_⟩
  ·rw[List.length_set,Nat.mul_one]
   omega
  ·rw[List.length_set,b2]
   simp
  ·by_cases c:i=tbl.length
   ·subst c
    rw[List.getElem?_append_right (lRf _),Nat.sub_self] at g1
    rw[List.getElem?_set,if_pos rfl,if_pos hlt] at g2
    simp at g1 g2
    rw[<-g1.2,<-g2]
    exact hk.keep hF2 (Agree.refl _) (fun b cs f k _ c=>b1'.ne k (by decide) c) (fun _ c=>by omega)
   ·have h7:(tbl++(p,[])::S)[i]? = some (q,ks'):=by
     rw[<-g1]
     rcases Nat.lt_or_ge i tbl.length with c1|c1
     ·rw[List.getElem?_append_left c1,List.getElem?_append_left c1]
     ·rw[List.getElem?_append_right c1,List.getElem?_append_right c1,show i - tbl.length=(i - tbl.length - 1)+1 by omega]
      rfl
    rw[List.getElem?_set,if_neg (Ne.symm c)] at g2
    exact (b3 i q ks' v h7 g2).keep hF2 (Agree.refl _) (fun b cs f k _ c=>b1'.ne k (by decide) c) (fun _ c=>by omega)
def zl (n lab:Nat) (FT:Nat->Nat):Nat->Nat:=fun q=>if q=2*n+1 then lab else FT q
theorem qi (h:Hp) (lab:Nat):Agree h FT (zl h.next lab FT):=⟨fun q hq=>if_neg (by omega),fun q hq=>if_neg (by omega)⟩
theorem zm (n lab:Nat):zl n lab FT (2*n+1)=lab:=if_pos rfl
def BB (mb:Nat) (lv rv:Value) (b:Nat):Prop:=b=mb\/blk lv=some b\/blk rv=some b
def TT (m e:Nat):Prop:=e=48\/e=71\/100+m<=e
def DK (v v1:Value) (n:Nat):Prop:=∀b,blk v1=some b->blk v=some b\/n<=b
structure AddS (m n0 f0 mb bk:Nat) (x3 x4 x5 x6 x7:Value) (h:Hp) (FT:Nat->Nat) (lv rv:Value) (h1:Hp) (FT1:Nat->Nat) (lv1 rv1:Value):Prop where
 agree:Agree h FT FT1
 own:h1.own mb 73 (cL bk lv1 rv1 x3 x4 x5 x6 x7)
 fr:Fr (BB mb lv rv) (TT m) FT h h1
 ext:ExtN n0 f0 h h1
 newl:DK lv lv1 h.next
 newr:DK rv rv1 h.next
theorem AddS.trans {m m1:Nat} {FT1 FT2:Nat->Nat} {lv1 rv1 lv2 rv2:Value} (x:AddS m n0 f0 mb bk x3 x4 x5 x6 x7 h FT lv rv h1 FT1 lv1 rv1) (y:AddS m1 n0 f0 mb bk x3 x4 x5 x6 x7 h1 FT1 lv1 rv1 h2 FT2 lv2 rv2) (hm:m<=m1):AddS m n0 f0 mb bk x3 x4 x5 x6 x7 h FT lv rv h2 FT2 lv2 rv2:=by
 refine ⟨x.agree.trans y.agree x.fr.nfam x.fr.next,y.own,x.fr.trans (y.fr.wide (fun b c=>c) (fun e c=>c.elim .inl (fun c=>c.elim (fun c=>.inr (.inl c)) (fun c=>.inr (.inr (by omega)))))) x.agree (fun b c => ?_),x.ext.trans y.ext,fun b c => ?_,fun b c => ?_⟩
 ·rcases c with c|c|c
  ·exact .inl (.inl c)
  ·exact (x.newl b c).elim (fun q=>.inl (.inr (.inl q))) .inr
  ·exact (x.newr b c).elim (fun q=>.inl (.inr (.inr q))) .inr
 ·exact (y.newl b c).elim (fun q=>x.newl b q) (fun q=>.inr (lTr x.fr.next q))
 ·exact (y.newr b c).elim (fun q=>x.newr b q) (fun q=>.inr (lTr x.fr.next q))
theorem Fr.rom (x:Fr B T FT h h1):h1.rom=h.rom:=by simp only[Hp.rom,x.base,x.ro]
theorem Fr.bn (x:Fr B T FT h h1) (k:h.base<=h.next):h1.base<=h1.next:=by rw[x.base];exact lTr k x.next
theorem vE {h:Hp} (hrom:h.rom=r) {b o n c:Nat} (hb:b<r.b) (hn:1<=n) (hc:n<=c):dn Tryz.prog h 46 (.slice (some ⟨b,o,none⟩) n c) (some (.int .i64 1)) none none=some (.slice (some ⟨b,o+3,none⟩) (n - 1) (c - 1)):=by
 have hb2:b<h.base:=by rw[<-hrom] at hb;exact hb
 have hc2:Nat.ble n c=true:=by rw[Nat.ble_eq];exact hc
 have hn2:Nat.ble 1 n=true:=by rw[Nat.ble_eq];exact hn
 simp only[dn,Tryz.underlying46,vo,og hb2,Option.isNone_none,hc2,ca]
 have e1:ca (some (.int .i64 1)) 0 n=some 1:=by
  show (match Nat.ble 1 n with|true=>some 1|false=>none)=_
  rw[hn2]
 simp only[ca] at e1
 rw[e1]
 rfl
end
section
variable {r:Ro} {h h1 h2:Hp} {n0 f0 mb bk:Nat} {FT FT':Nat->Nat} {lv rv x3 x4 x5 x6 x7:Value} {tbl:Tbl}
def Cp:OT:=(.two 8 (.two 9 (.one 10 (.one 11 (.one 12 .leaf))) 10 (.two 9 (.one 11 (.one 12 .leaf)) 11 (.two 9 (.one 12 .leaf) 12 (.one 9 .leaf)))) 10 (.two 8 (.two 9 (.one 11 (.one 12 .leaf)) 11 (.two 9 (.one 12 .leaf) 12 (.one 9 .leaf))) 11 (.two 8 (.two 9 (.one 12 .leaf) 12 (.one 9 .leaf)) 12 (.one 8 (.one 9 .leaf)))))
theorem qj {l:List ad} {i:Nat} (hi:i<l.length) (n:Nat):bB (l.take (i+1)) n=bB (l.take i) n++bz l[i] (n+(bB (l.take i) n).length)/\cY (l.take (i+1)) n=cY (l.take i) n++[n+(bB (l.take i) n).length]:=by
 rw[List.take_succ_eq_append_getElem hi]
 exact qg _ _ _
theorem k8 (l:List ad) (i n:Nat):(bB (l.take i) n).length<=(bB l n).length:=by
 induction l generalizing i n with
 | nil=>simp
 | cons x l ih =>
   cases i with
   | zero=>rw[List.take_zero,bB];exact lZr _
   | succ i =>
     rw[List.take_succ_cons,bB,bB,List.length_append,List.length_append]
     have:=ih i (n+(bz x n).length)
     omega
theorem zn (hmb:n0<=mb) {p:ad} {l:List ad} {Av:Option Addr} {c b o:Nat} {css:Nat->List Value} {h8:Hp} {FT8:Nat->Nat} {lv8 rv8:Value} {m:Nat} (hm:tbl.length=m) (ih:∀x∈l,DJ r n0 f0 mb bk x3 x4 x5 x6 x7 x)
  (hAv:l≠[]->Av=some ⟨b,o,none⟩) (hat:∀(i:Nat) (p:ad),l[i]? = some p->fS r b (o+i*3) (css i)) (hk:∀(i:Nat) (p:ad),l[i]? = some p->RoPart r p (css i)) (hbl:l.length<=9223372036854775807) (hbig:tbl.length+1+(bB l (m+1)).length<=100000)
  {a:Ev.A} {Q:Ex->Ev.A->Hp->Prop} (hn:a.n=78) (hrom:h8.rom=r) (hb:h8.base<=h8.next) (hn0:n0<=h8.next) (hf0:f0<=h8.nfam) (hM:h8.own mb 73 (cL bk lv8 rv8 x3 x4 x5 x6 x7)) (hT:Tab r h8 n0 f0 FT8 lv8 rv8 (tbl++[(p,[])]))
  (g0:a.get 0=.pointer (some ⟨mb,0,none⟩)) (g5:a.get 5=.int .i64 (m:Int)) (g6:a.get 6=.slice none 0 0) (g57:a.get 57=.slice Av l.length c) (g58:a.get 58=.int .i64 (l.length:Int)) (g59:a.get 59=.int .i64 0)
  (hq:∀(a1:Ev.A) (h9:Hp) (FT9:Nat->Nat) (lv9 rv9 kv:Value),a1.n=78->AddS m n0 f0 mb bk x3 x4 x5 x6 x7 h8 FT8 lv8 rv8 h9 FT9 lv9 rv9->Tab r h9 n0 f0 FT9 lv9 rv9 (tbl++(p,[])::bB l (m+1))->KidV h9 n0 f0 FT9 m kv (cY l (m+1)) ->
   a1.get 0=.pointer (some ⟨mb,0,none⟩)->a1.get 5=.int .i64 (m:Int)->a1.get 6=kv->Q (.exit 0) a1 h9) :
  Th Tryz.prog (aw Tryz.f24 [1,1,1,1,1,0,1,1,1,0]) a h8 Q ⟨⟩ ⟨⟩:=by
 simp only[aw,nav,Tryz.f24]
 refine au (n:=78) (by kernel_rfl) (fun m' a' h'=>∃(i:Nat) (FT9:Nat->Nat) (lv9 rv9 kv:Value),i<=l.length/\m'=l.length - i/\AddS m n0 f0 mb bk x3 x4 x5 x6 x7 h8 FT8 lv8 rv8 h' FT9 lv9 rv9/\Tab r h' n0 f0 FT9 lv9 rv9 (tbl++(p,[])::bB (l.take i) (m+1))/\SlL 1 3 (100+m) h' n0 f0 FT9 kv (fZ (cY (l.take i) (m+1)))/\(i=0->kv=.slice none 0 0)/\(∀b,blk kv=some b->h8.next<=b) /\
   a'.get 0=.pointer (some ⟨mb,0,none⟩)/\a'.get 5=.int .i64 (m:Int)/\a'.get 6=kv/\a'.get 57=.slice Av l.length c/\a'.get 58=.int .i64 (l.length:Int)/\a'.get 59=.int .i64 (i:Int)) ?_ _ _ _ hn
  ⟨0,FT8,lv8,rv8,_,lZr _,rfl,⟨Agree.refl _,hM,Fr.refl _,fun S h0 q _ _=>q,fun b c=>.inl c,fun b c=>.inl c⟩,by rw[List.take_zero,bB];exact hT,by rw[List.take_zero,cY];exact .inl ⟨rfl,rfl⟩,fun _=>rfl,fun b c=>(by cases c),g0,g5,g6,g57,g58,g59⟩
 rintro m' a' h' hn' ⟨i,FT9,lv9,rv9,kv,hi,rfl,S9,T9,K9,hz,hkb,e0,e5,e6,e57,e58,e59⟩
 by_cases hlt:i<l.length
 rotate_left
 ·have hi0:decide ((i:Int)<(l.length:Int))=false:=dcF (by omega)
  have ht:l.take i=l:=List.take_of_length_le (by omega)
  rw[ht] at T9 K9
  simp -dsimp only[go_sem,e58,e59,hi0]
  refine hq _ _ FT9 lv9 rv9 kv (by simp -dsimp only[go_sem,hn']) S9 T9 ?_ (by simp -dsimp only[go_sem,e0]) (by simp -dsimp only[go_sem,e5]) (by simp -dsimp only[go_sem,e6])
  by_cases hl0:i=0
  ·have:l=[]:=List.length_eq_zero_iff.1 (by omega)
   refine .inl ⟨by rw[this,cY],hz hl0⟩
  ·refine .inr ⟨fun e => ?_,K9⟩
   have:=fq l (m+1)
   rw[e] at this
   simp at this
   omega
 have hi1:decide ((i:Int)<(l.length:Int))=true:=dcT (Int.ofNat_lt.2 hlt)
 have hpi:l[i]? = some l[i]:=gEl hlt
 obtain rfl:=hAv (aO hlt)
 have hati:=hat i _ hpi
 have hki:=hk i _ hpi
 obtain ⟨Avi,ci,hcs⟩:=hki.shape
 rw[hcs] at hati hki
 have hrom':h'.rom=r:=S9.fr.rom.trans hrom
 have hb':=S9.fr.bn hb
 have hx0:=Ext.new h' (ak.cells ⟨[.string ⟨#[]⟩,.string ⟨#[]⟩,.slice none 0 0],48,0,0,false⟩)
 have hw0:=an hb' 48 [.string ⟨#[]⟩,.string ⟨#[]⟩,.slice none 0 0]
 have hst:=aE (o:=0) (vs:=[.string (l[i]).d,.string (l[i]).t,.slice Avi (l[i]).l.length ci]) (c1:=[.string (l[i]).d,.string (l[i]).t,.slice Avi (l[i]).l.length ci]) hw0 rfl rfl (by simp)
 have hx1:=hx0.put (b:=h'.next) (lRf _) (ak.cells ⟨[.string (l[i]).d,.string (l[i]).t,.slice Avi (l[i]).l.length ci],48,0,0,false⟩)
 have hP1:=av hw0 [.string (l[i]).d,.string (l[i]).t,.slice Avi (l[i]).l.length ci]
 have S10:AddS m n0 f0 mb bk x3 x4 x5 x6 x7 h8 FT8 lv8 rv8 _ FT9 lv9 rv9:=S9.trans (m1:=m) ⟨Agree.refl _,aj hx1 S9.own,Fr.of hx1,ExtN.of hx1,fun b c=>.inl c,fun b c=>.inl c⟩ (lRf _)
 have T10:=T9.keep (B:=fun _=>False) (T:=fun _=>False) (Fr.of hx1) (Agree.refl _) (fun _ _ _ _ _ _ _ c=>c) (fun c=>c) (fun c=>c) (fun _ _ _ _ _ c=>c)
 have K10:=d9 (B:=fun _=>False) (T:=fun _=>False) (Fr.of hx1) (Agree.refl _) K9 (fun _ _ _ _ _ c=>c) (fun c=>c)
 generalize hhA:(h'.newH (ak.cells ⟨[.string ⟨#[]⟩,.string ⟨#[]⟩,.slice none 0 0],48,0,0,false⟩)).put h'.next (ak.cells ⟨[.string (l[i]).d,.string (l[i]).t,.slice Avi (l[i]).l.length ci],48,0,0,false⟩)=hA at hst hx1 hP1 S10 T10 K10
 obtain ⟨ta1,ta2⟩:=qj hlt (m+1)
 have hlen:(tbl++(p,[])::bB (l.take i) (m+1)).length=m+1+(bB (l.take i) (m+1)).length:=by simp[hm];omega
 have hle1:=k8 l (i+1) (m+1)
 rw[ta1,List.length_append] at hle1
 have hpl:(bz l[i] 0).length=(bz l[i] (m+1+(bB (l.take i) (m+1)).length)).length:=fu _ _ _
 obtain ⟨v11,h11,hs11,hv11,FT11,lv11,rv11,q1,q2,q3,q4,q5,q6,q7⟩:=ih _ (List.getElem_mem hlt) hA FT9 lv9 rv9 _ _ (S10.fr.rom.trans hrom) (S10.fr.bn hb) (lTr hn0 S10.fr.next) (lTr hf0 S10.fr.nfam) S10.own T10 hki (by rw[hlen];omega)
 rw[hlen] at hv11 q3 q4
 have F11:Fr (BB mb lv9 rv9) (TT (m+1)) FT9 hA h11:=q4.wide (fun b c=>c) (fun e c=>c.elim .inl (fun c=>c.elim (fun c=>.inr (.inl c)) (fun c=>.inr (.inr (by omega)))))
 have S1a:AddS (m+1) n0 f0 mb bk x3 x4 x5 x6 x7 hA FT9 lv9 rv9 h11 FT11 lv11 rv11:=⟨q1,q2,F11,q5,q6,q7⟩
 have S11:=S10.trans S1a (Nat.le_succ m)
 obtain ⟨css10,hl10,_,_⟩:=T10.l
 obtain ⟨kvs10,hr10,_,_⟩:=T10.rest
 have nBB:∀(b:Nat) (cs:List Value) (f:Nat),bX 3 hA b cs f->n0<=b->¬BB mb lv9 rv9 b:=by
  intro b cs f k _ c
  rcases c with c|c|c
  ·rw[c] at k
   exact absurd (gz k (b8 S10.own)) (by decide)
  ·exact hl10.ne k (by decide) c
  ·exact hr10.ne k (by decide) c
 have K11:SlL 1 3 (100+m) h11 n0 f0 FT11 kv (fZ (cY (l.take i) (m+1))):=d9 F11 q1 K10 nBB (fun c=>by
  rcases c with c|c|c<;>omega)
 have hb11:=S11.fr.bn hb
 have hx12:=Ext.new h11 (ak.cells ⟨[v11],3,0,0,false⟩)
 have hy12:=an hb11 3 [v11]
 generalize hhB:h11.newH (ak.cells ⟨[v11],3,0,0,false⟩)=h12 at hx12 hy12
 have S12:=S11.trans (m1:=m) ⟨Agree.refl _,aj hx12 S11.own,Fr.of hx12,ExtN.of hx12,fun b c=>.inl c,fun b c=>.inl c⟩ (lRf _)
 have T12:=q3.keep (B:=fun _=>False) (T:=fun _=>False) (Fr.of hx12) (Agree.refl _) (fun _ _ _ _ _ _ _ c=>c) (fun c=>c) (fun c=>c) (fun _ _ _ _ _ c=>c)
 have K12:=d9 (B:=fun _=>False) (T:=fun _=>False) (Fr.of hx12) (Agree.refl _) K11 (fun _ _ _ _ _ c=>c) (fun c=>c)
 have hb12:=S12.fr.bn hb
 have hfx:bS h12 1 1 (.slice (some ⟨h11.next,0,none⟩) 1 1)=some [v11]:=by
  simp only[bS,af hy12,Nat.one_mul,List.drop_zero,bU]
 have hil:(fZ (cY (l.take i) (m+1))).length=i:=by rw[k7,fq,List.length_take];omega
 have hli:l.length<=(bB l (m+1)).length:=by
  have go:∀(l:List ad) (n:Nat),l.length<=(bB l n).length:=by
   intro l
   induction l with
   | nil=>intro n;exact lZr _
   | cons x l ih2 =>
     intro n
     rw[bB,List.length_append,List.length_cons]
     have:=ih2 (n+(bz x n).length)
     have:=oX x n
     omega
  exact go _ _
 obtain ⟨h13,FT13,n13,hn13,happ,K13,A13,F13,E13,lt13,_,_,_⟩:=na (t:=71) (m:=1) Tryz.underlying71 wY yz3 ⟨rfl,by decide⟩ (by kernel_rfl) (by kernel_rfl) K12 rfl hfx (by decide) rfl (by rw[hv11];rfl) hb12 (lTr hn0 S12.fr.next) (lTr hf0 S12.fr.nfam) (by rw[hil];simp;omega)
 have hbmb:∀b,BB mb lv11 rv11 b->blk kv≠some b:=by
  intro b c d
  obtain ⟨_,hlt2⟩:=K12.lt _ d
  rcases K12 with ⟨_,rfl⟩|⟨b2,f2,n2,rfl,_,hr2,_⟩
  ·cases d
  ·injection d with d
   have d:b2=b:=d
   subst d
   obtain ⟨css12,hl12,_,_⟩:=T12.l
   obtain ⟨kvs12,hr12,_,_⟩:=T12.rest
   rcases c with c|c|c
   ·rw[c] at hr2
    exact absurd (gz hr2 (b8 S12.own)) (by decide)
   ·exact hl12.ne hr2 (by decide) c
   ·exact hr12.ne hr2 (by decide) c
 have T13:Tab r h13 n0 f0 FT13 lv11 rv11 (tbl++(p,[])::bB (l.take i) (m+1)++bz l[i] (m+1+(bB (l.take i) (m+1)).length)):=by
  obtain ⟨⟨css12,hl12,a2,a3⟩,kvs12,hr12,b2,b3⟩:=T12
  refine ⟨⟨css12,hl12.keep F13 A13 (fun b c d=>K12.apart hl12 (by omega) b c d) (by omega),a2,a3⟩,kvs12,hr12.keep F13 A13 (fun b c d=>K12.apart hr12 (by omega) b c d) (by omega),b2,fun j q ks v g1 g2 => ?_⟩
  rcases b3 j q ks v g1 g2 with k|⟨k1,k2⟩
  ·exact .inl k
  ·have hj:j≠m:=by
    intro e
    subst e
    rw[List.append_assoc,List.getElem?_append_right (by omega),show j - tbl.length=0 by omega] at g1
    simp at g1
    exact k1 (by first|exact g1.2|exact g1.2.symm)
   exact .inr ⟨k1,k2.keep F13 A13 (fun b c d=>K12.apart k2 (by omega) b c d) (by omega)⟩
 have hiN:n13=i:=by omega
 subst hiN
 have T13':Tab r h13 n0 f0 FT13 lv11 rv11 (tbl++(p,[])::bB (l.take (n13+1)) (m+1)):=by
  rw[ta1]
  simpa using T13
 have S13:AddS m n0 f0 mb bk x3 x4 x5 x6 x7 h8 FT8 lv8 rv8 h13 FT13 lv11 rv11:=⟨S12.agree.trans A13 S12.fr.nfam S12.fr.next,F13.own _ _ _ S12.own (fun c=>hbmb mb (.inl rfl) c),
  S12.fr.trans (F13.wide (B':=fun b=>blk kv=some b) (T':=TT m) (fun b c=>c) (fun e c=>by rw[c];exact .inr (.inr (lRf _)))) S12.agree (fun b c=>.inr (hkb b c)),S12.ext.trans E13,S12.newl,S12.newr⟩
 have K13':SlL 1 3 (100+m) h13 n0 f0 FT13 (.slice (some ⟨h12.next,0,none⟩) (n13+1) (n13+1)) (fZ (cY (l.take (n13+1)) (m+1))):=by
  have e:fZ (cY (l.take (n13+1)) (m+1))=fZ (cY (l.take n13) (m+1))++[v11]:=by
   rw[ta2,hv11]
   simp[fZ]
  rw[e]
  exact K13
 have hbs:aY Tryz.prog 71 1 [(0,v11)]=some (.cells ⟨[v11],3,0,0,false⟩,fun b=>.slice (some ⟨b,0,none⟩) 1 1):=by
  rw[yV 1 (by decide),hv11]
  rfl
 simp -dsimp only[go_sem,e0,e5,e6,e57,e58,e59,hi1,eR hlt,az (n:=3) hrom' hati rfl,hst,af hP1]
 refine ⟨v11,h11,hs11,?_⟩
 obtain ⟨Ak,nk,hkA,_,_⟩:=K12.len
 simp -dsimp only[go_sem,e0,e5,e6,e57,e58,e59,hbs,hhB,bP,happ,ah hlt hbl]
 exact ⟨l.length - (n13+1),by omega,n13+1,FT13,lv11,rv11,_,by omega,rfl,S13,T13',K13',fun c=>by omega,fun b c=>by
  injection c with c
  have c:h12.next=b:=c
  have:=S12.fr.next
  omega,by first|rfl|simp⟩
theorem DN (hmb:n0<=mb):∀(n:Nat) (p:ad),(bz p 0).length<n->DJ r n0 f0 mb bk x3 x4 x5 x6 x7 p:=by
 intro n
 induction n with
 | zero=>exact fun p hp=>absurd hp (lNz _)
 | succ n ihn =>
 intro p hpn h FT lv rv tbl cs hrom hb hn0 hf0 hM hT hp hbig
 obtain ⟨d,t,l⟩:=p
 have hT0:=hT
 have hp0:=hp
 obtain ⟨A,A2,hlv,hrv,hA,hA2⟩:=hT.lens
 cases hp with
 | mk d t l Av c b o css hc hbl hAv hat hk hs =>
 refine aL wf Tryz.func24 rfl rfl (n:=78) rfl (by kernel_rfl) rfl ?_
 intro a hn hg
 have hr:Tryz.f24.results.toList=[.tmp 4]:=rfl
 have g0:=hg 0
 have g1:=hg 1
 clear hg
 simp only[gC0,gC1] at g0 g1
 have hP:=an hb 48 [.string d,.string t,.slice Av l.length c]
 have hx1:=Ext.new h (ak.cells ⟨[.string d,.string t,.slice Av l.length c],48,0,0,false⟩)
 simp -dsimp only[go_sem,g0,g1]
 generalize hh1:h.newH (ak.cells ⟨[.string d,.string t,.slice Av l.length c],48,0,0,false⟩)=h1 at hP hx1 ⊢
 have hM1:=aj hx1 hM
 have hb1:h1.base<=h1.next:=by rw[hx1.base];exact lTr hb hx1.next
 have hT1:Tab r h1 n0 f0 FT lv rv tbl:=hT.keep (B:=fun _=>False) (T:=fun _=>False) (Fr.of hx1) (Agree.refl _) (fun _ _ _ _ _ _ _ c=>c) (fun c=>c) (fun c=>c) (fun _ _ _ _ _ c=>c)
 have hm1:h1.load ⟨mb,1,none⟩=some (.slice A tbl.length tbl.length):=by rw[aa hM1,hlv];rfl
 have hm2:h1.load ⟨mb,2,none⟩=some (.slice A2 tbl.length tbl.length):=by rw[aa hM1,hrv];rfl
 simp -dsimp only[go_sem,g0,g1,hm1]
 obtain ⟨sm1,sm2⟩:(∀j,aB j (.slice A tbl.length tbl.length) (.slice A tbl.length tbl.length)=true)/\∀j,aB j (.slice A2 tbl.length tbl.length) (.slice A2 tbl.length tbl.length)=true:=⟨fun j=>ab hA _ _ _,fun j=>ab hA2 _ _ _⟩
 have hx:=an hb1 48 [.string ⟨#[]⟩,.string ⟨#[]⟩,.slice none 0 0]
 have hx2:=Ext.new h1 (ak.cells ⟨[.string ⟨#[]⟩,.string ⟨#[]⟩,.slice none 0 0],48,0,0,false⟩)
 have hnx2:(h1.newH (ak.cells ⟨[.string ⟨#[]⟩,.string ⟨#[]⟩,.slice none 0 0],48,0,0,false⟩)).next=h1.next+1:=rfl
 generalize hh2:h1.newH (ak.cells ⟨[.string ⟨#[]⟩,.string ⟨#[]⟩,.slice none 0 0],48,0,0,false⟩)=h2 at hx hx2 hnx2
 have hM2:=aj hx2 hM1
 have hb2:h2.base<=h2.next:=by rw[hx2.base];exact lTr hb1 hx2.next
 have hn01:n0<=h1.next:=lTr hn0 hx1.next
 have hn02:n0<=h2.next:=lTr hn01 hx2.next
 have hf01:f0<=h1.nfam:=lTr hf0 hx1.nfam
 have hf02:f0<=h2.nfam:=lTr hf01 hx2.nfam
 have hpos:0<(bz ⟨d,t,l⟩ 0).length:=oX _ _
 have hT2:Tab r h2 n0 f0 FT lv rv tbl:=hT1.keep (B:=fun _=>False) (T:=fun _=>False) (Fr.of hx2) (Agree.refl _) (fun _ _ _ _ _ _ _ c=>c) (fun c=>c) (fun c=>c) (fun _ _ _ _ _ c=>c)
 obtain ⟨h3,h4,h4',h5,FT5,happ,hs1,hs2,hs3,hs4,hA5,hM5,hF5,hE5,hlt5,hL5⟩:=zi hmb hb2 hn02 hf02 hM2 hT2 hp0 (by omega) hx
 rw[hlv] at happ
 have hbs:aY Tryz.prog 46 1 [(0,.agg #[.string ⟨#[]⟩,.string ⟨#[]⟩,.slice none 0 0])]=some (.cells ⟨[.string ⟨#[]⟩,.string ⟨#[]⟩,.slice none 0 0],48,0,0,false⟩,fun b=>.slice (some ⟨b,0,none⟩) 1 1):=by
  rw[DE 1 (by decide)]
  rfl
 refine yx wf (n:=78) 8 [[],[0],[0,1],[0,1,2],[],[0,1,2,3],[],[0,1,2,3,4,5,6]] Cp ?hn (by kernel_rfl) ?a0 ?h0 ?hn0 ?hk ?kk
 case hn=>simp -dsimp only[go_sem,hn]
 case kk =>
  dsimp only [List.take_succ_cons,List.take_zero]
  have hP2:=aj hx2 hP
  have hm12:h2.load ⟨mb,1,none⟩=some (.slice A tbl.length tbl.length):=by rw[aa hM2,hlv];rfl
  have hpl:[Value.string ⟨#[]⟩,Value.string ⟨#[]⟩,Value.slice none 0 0].all (plain 8)=true:=rfl
  simp -dsimp only[go_sem,g0,g1,hm1,af hP,hpl,hbs,sm1,sm2,ab hs,hh2,hm12,af hP2,bP,happ]
  have ii:ap Tryz.prog 46 (.slice (some ⟨h2.next,0,none⟩) (tbl.length+1) (tbl.length+1)) (.int .i64 (tbl.length:Int))=some (.pointer (some ⟨h2.next,tbl.length*3,none⟩)):=by
   have:=oz (b:=h2.next) (o:=0) (n:=tbl.length+1) (c:=tbl.length+1) (i:=tbl.length) (by omega)
   rwa[Nat.zero_add] at this
  have hs1':h3.stores ⟨h2.next,tbl.length*3,none⟩ [.string d,.string t,.slice Av l.length c]=some h4:=hs1
  have hs4':h4'.stores ⟨h2.next,tbl.length*3,none⟩ [.string d,.string t,.slice Av l.length c]=some h5:=hs4
  simp -dsimp only[go_sem,Cp,yw,yv,wO,gC0,gC1,ii,hs1',hs2,hs3,hs4',ai,g0,g1]
  have set0:∀(a:Ev.A) (v:Value),a.set none v=a:=fun _ _=>rfl
  have c3:∀(a:Ev.A) (x y:Value),(a.set (some 23) y).set (some 22) x=(a.set (some 22) x).set (some 23) y:=fun a x y=>Ev.A.set_comm a x y (by decide)
  have c4:∀(a:Ev.A) (x y:Value),(a.set (some 24) y).set (some 22) x=(a.set (some 22) x).set (some 24) y:=fun a x y=>Ev.A.set_comm a x y (by decide)
  simp only[set0,c3,c4]
  repeat' (first|exact rfl|refine ⟨?_,?_⟩)
 case hn0=>simp -dsimp only[go_sem,hn]
 case hk =>
 have hR2:RPart h2 n0 f0 FT rv tbl:=hT2.rest
 obtain ⟨css2,hl2,_,_⟩:=hT2.l
 obtain ⟨kvs2,hr2,_,_⟩:=hT2.rest
 have hR5:RPart h5 n0 f0 FT5 rv tbl:=hR2.keep hF5 hA5 (fun e b cs f he k _ c=>by
  rcases c with c|c
  ·rw[c] at k
   have:=gz k (b8 hM2)
   rcases he with q|q<;>(rw[q] at this;exact absurd this (by decide))
  ·refine hl2.ne k ?_ c
   rcases he with q|q<;>(rw[q];decide)) (by decide) (fun i p ks _ _ c=>by omega)
 generalize hlv5:(Value.slice (some ⟨h2.next,0,none⟩) (tbl.length+1) (tbl.length+1))=lv5 at *
 have hb5:h5.base<=h5.next:=hF5.bn hb2
 have hx6:=Ext.new h5 (ak.cells ⟨[.slice none 0 0],71,0,0,false⟩)
 have hy6:=an hb5 71 [.slice none 0 0]
 generalize hh6:h5.newH (ak.cells ⟨[.slice none 0 0],71,0,0,false⟩)=h6 at hx6 hy6
 have F56:Fr (fun _=>False) (fun _=>False) FT5 h5 h6:=Fr.of hx6
 have hM6:=aj hx6 hM5
 have hL6:LPart r h6 n0 f0 FT5 lv5 (tbl++[(⟨d,t,l⟩,[])]):=LPart.keep F56 (Agree.refl _) (by
  obtain ⟨css,q1,q2,q3⟩:=hL5
  exact ⟨css,q1,by rw[q2];simp,q3⟩) (fun _ _ _ _ _ c=>c) (fun c=>c)
 have hR6:RPart h6 n0 f0 FT5 rv tbl:=hR5.keep F56 (Agree.refl _) (fun _ _ _ _ _ _ _ c=>c) (fun c=>c) (fun _ _ _ _ _ c=>c)
 have hb6:h6.base<=h6.next:=F56.bn hb5
 obtain ⟨h7,h8,FT8,happ8,hs8,hA8,hM8,hF8,hE8,hlt8,hT8⟩:=zj hmb hb6 (lTr hn02 (lTr hF5.next hx6.next)) (lTr hf02 (lTr hF5.nfam hx6.nfam)) hM6 hL6 hR6 (by omega) hy6
 generalize hrv8:(Value.slice (some ⟨h6.next,0,none⟩) (tbl.length+1) (tbl.length+1))=rv8 at *
 have hm5:h5.load ⟨mb,2,none⟩=some rv:=by rw[aa hM5];rfl
 have hbs7:aY Tryz.prog 70 1 [(0,.slice none 0 0)]=some (.cells ⟨[.slice none 0 0],71,0,0,false⟩,fun b=>.slice (some ⟨b,0,none⟩) 1 1):=by
  rw[DF 1 (by decide)]
  rfl
 have hone8:∃A8,rv8=.slice A8 (tbl.length+1) (tbl.length+1):=⟨_,hrv8.symm⟩
 have S01:AddS tbl.length n0 f0 mb bk x3 x4 x5 x6 x7 h FT lv rv h1 FT lv rv:=⟨Agree.refl _,hM1,Fr.of hx1,ExtN.of hx1,fun b c=>.inl c,fun b c=>.inl c⟩
 have S18:AddS tbl.length n0 f0 mb bk x3 x4 x5 x6 x7 h1 FT lv rv h8 FT8 lv5 rv8:=by
  have F02:Fr (BB mb lv rv) (TT tbl.length) FT h1 h2:=Fr.of hx2
  have F05:Fr (BB mb lv rv) (TT tbl.length) FT h1 h5:=F02.trans (hF5.wide (B':=fun b=>b=mb\/blk lv=some b) (T':=TT tbl.length) (fun b c=>c) (fun e c=>.inl c)) (Agree.refl _) (fun b c=>.inl (c.elim .inl (fun c=>.inr (.inl c))))
  have A05:Agree h1 FT FT5:=hA5.less hx2
  have F06:Fr (BB mb lv rv) (TT tbl.length) FT h1 h6:=F05.trans (Fr.of (B:=fun _=>False) (T:=TT tbl.length) (FT:=FT5) hx6) A05 (fun b c=>c.elim)
  have F08:Fr (BB mb lv rv) (TT tbl.length) FT h1 h8:=F06.trans (hF8.wide (B':=fun b=>b=mb\/blk rv=some b) (T':=TT tbl.length) (fun b c=>c) (fun e c=>.inr (.inl c))) A05 (fun b c=>.inl (c.elim .inl (fun c=>.inr (.inr c))))
  refine ⟨A05.trans hA8 F06.nfam F06.next,hM8,F08,((ExtN.of hx2).trans hE5).trans ((ExtN.of hx6).trans hE8),fun b c=>.inr ?_,fun b c=>.inr ?_⟩
  ·rw[<-hlv5] at c
   injection c with c
   have c:h2.next=b:=c
   have:=hx2.next
   omega
  ·rw[<-hrv8] at c
   injection c with c
   have c:h6.next=b:=c
   have:=F06.next
   omega
 have S8:=S01.trans S18 (lRf _)
 have hBx:¬BB mb lv rv h.next:=by
  rintro (c|c|c)
  ·have:=hM.2.1;omega
  ·have:=(hl2.lt _ c)
   obtain ⟨css0,hl0,_,_⟩:=hT0.l
   have:=(hl0.lt _ c).2
   omega
  ·obtain ⟨kvs0,hr0,_,_⟩:=hT0.rest
   have:=(hr0.lt _ c).2
   omega
 have hP8:=S18.fr.own _ _ _ hP hBx
 subst hrv8
 have hpn0:(bz ⟨d,t,l⟩ 0).length=(bz ⟨d,t,l⟩ tbl.length).length:=fu _ _ _
 have hrom8:h8.rom=r:=S8.fr.rom.trans hrom
 have hb8:=S8.fr.bn hb
 have hn08:n0<=h8.next:=lTr hn0 S8.fr.next
 have hf08:f0<=h8.nfam:=lTr hf0 S8.fr.nfam
 have fin:∀(h9:Hp) (FT9:Nat->Nat) (lv9 rv9 kv:Value) (X:Tbl) (ks:List Nat),AddS tbl.length n0 f0 mb bk x3 x4 x5 x6 x7 h FT lv rv h9 FT9 lv9 rv9->Tab r h9 n0 f0 FT9 lv9 rv9 (tbl++(⟨d,t,l⟩,[])::X)->KidV h9 n0 f0 FT9 tbl.length kv ks->bz ⟨d,t,l⟩ tbl.length=(⟨d,t,l⟩,ks)::X ->
   ∃b2 n2 h10 A9,kv=.slice A9 ks.length ks.length/\rv9=.slice (some ⟨b2,0,none⟩) n2 n2/\tbl.length<n2/\h9.stores ⟨b2,tbl.length,none⟩ [kv]=some h10/\h9.load ⟨mb,2,none⟩=some rv9/\C1 r n0 f0 mb bk x3 x4 x5 x6 x7 h FT lv rv tbl (bz ⟨d,t,l⟩ tbl.length) h10:=by
  intro h9 FT9 lv9 rv9 kv X ks S9 T9 K9 e9
  obtain ⟨A9,hkv,_,_⟩:=K9.len
  obtain ⟨b2,n2,h10,q1,q2,q3,q4,q5,q6,q7⟩:=zk S9.own T9 K9
  refine ⟨b2,n2,h10,A9,hkv,q1,q2,q3,by rw[aa S9.own];rfl,?_⟩
  have S10:AddS tbl.length n0 f0 mb bk x3 x4 x5 x6 x7 h9 FT9 lv9 rv9 h10 FT9 lv9 rv9:=⟨Agree.refl _,q4,q6.wide (fun b c=>.inr (.inr c)) (fun e c=>.inr (.inl c)),q7,fun b c=>.inl c,fun b c=>.inl c⟩
  have S:=S9.trans S10 (lRf _)
  refine ⟨FT9,lv9,rv9,S.agree,S.own,?_,S.fr.wide (fun b c=>c) (fun e c=>c),S.ext,S.newl,S.newr⟩
  rw[e9]
  exact q5
 have Do:¬(d.data.toList=[115,101,113]/\1<l.length)->∀n,bz ⟨d,t,l⟩ n=(⟨d,t,l⟩,cY l (n+1))::bB l (n+1):=by
  intro c n
  rw[bz]
  by_cases hd:d.data.toList=[115,101,113]
  ·rw[if_pos hd]
   match l with
   | []=>rw[d8,cY,bB]
   | [x]=>rw[d8,cY,cY,bB,bB,List.append_nil]
   | x::y::l'=>exact absurd ⟨hd,by simp⟩ c
  ·rw[if_neg hd]
 have done:¬(d.data.toList=[115,101,113]/\1<l.length)->∀(a8:Ev.A),a8.n=78->a8.get 0=.pointer (some ⟨mb,0,none⟩)->a8.get 5=.int .i64 (tbl.length:Int)->a8.get 6=.slice none 0 0->a8.get 57=.slice Av l.length c->a8.get 58=.int .i64 (l.length:Int)->a8.get 59=.int .i64 0 ->
   ∀Q:Ex->Ev.A->Hp->Prop,(∀(a1:Ev.A) (h9 h10:Hp) (b2 n2:Nat) (kv:Value) (A9:Option Addr) (nk:Nat),a1.n=78->kv=.slice A9 nk nk->tbl.length<n2->h9.stores ⟨b2,tbl.length,none⟩ [kv]=some h10->h9.load ⟨mb,2,none⟩=some (.slice (some ⟨b2,0,none⟩) n2 n2)->C1 r n0 f0 mb bk x3 x4 x5 x6 x7 h FT lv rv tbl (bz ⟨d,t,l⟩ tbl.length) h10 ->
    a1.get 0=.pointer (some ⟨mb,0,none⟩)->a1.get 5=.int .i64 (tbl.length:Int)->a1.get 6=kv->Q (.exit 0) a1 h9)->Th Tryz.prog (aw Tryz.f24 [1,1,1,1,1,0,1,1,1,0]) a8 h8 Q ⟨⟩ ⟨⟩:=by
  intro hnt a8 hn8 r0 r5 r6 r57 r58 r59 Q hQ
  have hsh:=Do hnt
  have hl0:=congrArg List.length (hsh 0)
  rw[List.length_cons] at hl0
  refine zn (p:=⟨d,t,l⟩) (l:=l) (tbl:=tbl) (m:=tbl.length) hmb rfl (fun x hx=>ihn x (by
   have:=sW l x (0+1) hx
   omega)) hAv hat hk hbl (by rw[oW l (tbl.length+1) (0+1)];omega) hn8 hrom8 hb8 hn08 hf08 hM8 hT8 r0 r5 r6 r57 r58 r59 (fun a1 h9 FT9 lv9 rv9 kv hn1 S9 T9 K9 p0 p5 p6 => ?_)
  obtain ⟨b2,n2,h10,A9,w1,w2,w3,w4,w5,w6⟩:=fin h9 FT9 lv9 rv9 kv _ _ (S8.trans S9 (lRf _)) T9 K9 (hsh _)
  subst w2
  exact hQ a1 h9 h10 b2 n2 kv A9 _ hn1 w1 w3 w4 w5 w6 p0 p5 p6
 have i12:∀(b12 n12:Nat),tbl.length<n12->ap Tryz.prog 70 (.slice (some ⟨b12,0,none⟩) n12 n12) (.int .i64 (tbl.length:Int))=some (.pointer (some ⟨b12,tbl.length,none⟩)):=by
  intro b12 n12 hlt
  have:=pO (b:=b12) (o:=0) (n:=n12) (c:=n12) hlt
  rwa[Nat.zero_add] at this
 by_cases hd:d.data.toList=[115,101,113]
 ·have hdt:decide (d.data.toList=[115,101,113])=true:=dcT hd
  by_cases hl1:1<l.length
  ·have hdl:decide ((1:Int)<(l.length:Int))=true:=dcT (by omega)
   match l,hl1 with
   | x::y::l',_ =>
   obtain rfl:=hAv (by simp)
   generalize hN:(x::y::l').length=N at *
   have hN2:l'.length+2=N:=by rw[<-hN];simp
   have hxn:(bz x (tbl.length+1)).length=(bz x 0).length:=fu _ _ _
   have hq:bz ⟨d,t,x::y::l'⟩ tbl.length=(⟨d,t,x::y::l'⟩,[tbl.length+1,tbl.length+1+(bz x (tbl.length+1)).length])::(bz x (tbl.length+1)++d8 dx noT (y::l') (tbl.length+1+(bz x (tbl.length+1)).length)):=by
    rw[bz,if_pos hd,d8]
   have hql:=congrArg List.length hq
   rw[<-hpn0,List.length_cons,List.length_append,hxn] at hql
   have htl:(d8 dx noT (y::l') (tbl.length+1+(bz x (tbl.length+1)).length)).length=(bz ⟨dx,noT,y::l'⟩ 0).length:=by
    have e0:bz ⟨dx,noT,y::l'⟩ 0=d8 dx noT (y::l') 0:=by
     rw[bz]
     exact if_pos rfl
    rw[e0]
    exact oV _ _ _ _ _
   rw[hxn] at htl
   rw[htl] at hql
   have hk0:=hk 0 x rfl
   have hat0:=hat 0 x rfl
   obtain ⟨Av0,c0,hcs0⟩:=hk0.shape
   rw[hcs0] at hk0 hat0
   obtain ⟨v9,h9,hs9,hv9,FT9,lv9,rv9,q1,q2,q3,q4,q5,q6,q7⟩:=ihn x (by omega) h8 FT8 lv5 _ (tbl++[(⟨d,t,x::y::l'⟩,[])]) _ hrom8 hb8 hn08 hf08 hM8 hT8 hk0 (by simp;omega)
   have hl9:(tbl++[((⟨d,t,x::y::l'⟩:ad),([]:List Nat))]).length=tbl.length+1:=by simp
   rw[hl9] at hv9 q3
   have S89:AddS (tbl++[((⟨d,t,x::y::l'⟩:ad),([]:List Nat))]).length n0 f0 mb bk x3 x4 x5 x6 x7 h8 FT8 lv5 _ h9 FT9 lv9 rv9:=⟨q1,q2,q4,q5,q6,q7⟩
   have S19:=S18.trans S89 (by simp)
   have S9:=S01.trans S19 (lRf _)
   have hP9:=S19.fr.own _ _ _ hP hBx
   have hkt:RoPart r ⟨dx,noT,y::l'⟩ [.string dx,.string noT,.slice (some ⟨b,o+3,none⟩) (N - 1) (c - 1)]:=by
    have eN:N - 1=(y::l').length:=by simp;omega
    rw[eN]
    refine .mk dx noT (y::l') (some ⟨b,o+3,none⟩) (c - 1) b (o+3) (fun i=>css (i+1)) (by simp;omega) (by simp;omega) (fun _=>rfl) (fun i p e => ?_) (fun i p e=>hk (i+1) p (by simpa using e)) rfl
    have:=hat (i+1) p (by simpa using e)
    rwa[show o+(i+1)*3=o+3+i*3 by omega] at this
   obtain ⟨v10,h10,hs10,hv10,FT10,lv10,rv10,p1,p2,p3,p4,p5,p6,p7⟩:=ihn ⟨dx,noT,y::l'⟩ (by omega) h9 FT9 lv9 rv9 _ _ (S9.fr.rom.trans hrom) (S9.fr.bn hb) (lTr hn0 S9.fr.next) (lTr hf0 S9.fr.nfam) q2 q3 hkt (by simp;omega)
   have hl10:(tbl++[((⟨d,t,x::y::l'⟩:ad),([]:List Nat))]++bz x (tbl.length+1)).length=tbl.length+1+(bz x (tbl.length+1)).length:=by simp;omega
   rw[hl10] at hv10 p3
   have S9a:AddS (tbl++[((⟨d,t,x::y::l'⟩:ad),([]:List Nat))]++bz x (tbl.length+1)).length n0 f0 mb bk x3 x4 x5 x6 x7 h9 FT9 lv9 rv9 h10 FT10 lv10 rv10:=⟨p1,p2,p4,p5,p6,p7⟩
   have S10:=S9.trans S9a (by simp)
   have hb10:=S10.fr.bn hb
   have hx11:=Ext.new h10 (ak.cells ⟨[v9,v10],3,0,0,false⟩)
   have hy11:=an hb10 3 [v9,v10]
   have hnx11:(h10.newH (ak.cells ⟨[v9,v10],3,0,0,false⟩)).next=h10.next+1:=rfl
   generalize hh11:h10.newH (ak.cells ⟨[v9,v10],3,0,0,false⟩)=h11 at hx11 hy11 hnx11
   have S11:AddS tbl.length n0 f0 mb bk x3 x4 x5 x6 x7 h FT lv rv h11 (zl h10.next (100+tbl.length) FT10) lv10 rv10:=S10.trans (m1:=tbl.length) ⟨qi h10 (100+tbl.length),aj hx11 p2,Fr.of hx11,ExtN.of hx11,fun b c=>.inl c,fun b c=>.inl c⟩ (lRf _)
   have hseq:bz ⟨dx,noT,y::l'⟩ (tbl.length+1+(bz x (tbl.length+1)).length)=d8 dx noT (y::l') (tbl.length+1+(bz x (tbl.length+1)).length):=by
    rw[bz]
    exact if_pos rfl
   have hT11:Tab r h11 n0 f0 (zl h10.next (100+tbl.length) FT10) lv10 rv10 (tbl++(⟨d,t,x::y::l'⟩,[])::(bz x (tbl.length+1)++d8 dx noT (y::l') (tbl.length+1+(bz x (tbl.length+1)).length))):=by
    have:=p3.keep (B:=fun _=>False) (T:=fun _=>False) (Fr.of hx11) (qi h10 (100+tbl.length)) (fun _ _ _ _ _ _ _ c=>c) (fun c=>c) (fun c=>c) (fun _ _ _ _ _ c=>c)
    rw[hseq] at this
    simpa using this
   have hkv:KidV h11 n0 f0 (zl h10.next (100+tbl.length) FT10) tbl.length (.slice (some ⟨h10.next,0,none⟩) 2 2) [tbl.length+1,tbl.length+1+(bz x (tbl.length+1)).length]:=by
    refine .inr ⟨by simp,.inr ⟨h10.next,0,2,rfl,rfl,?_,lTr hn0 S10.fr.next,fun e=>absurd rfl e,zm _ _⟩⟩
    have:=b8 hy11
    rw[hv9,hv10] at this
    exact this
   obtain ⟨b12,n12,h12,A12,e12,e12b,hlt12,hs12,hm12,hres⟩:=fin h11 _ lv10 rv10 _ _ _ S11 hT11 hkv hq
   have hsl:dn Tryz.prog h8 46 (.slice (some ⟨b,o,none⟩) N c) (some (.int .i64 1)) none none=some (.slice (some ⟨b,o+3,none⟩) (N - 1) (c - 1)):=vE hrom8 hat0.1 (by omega) hc
   have hsl9:dn Tryz.prog h9 46 (.slice (some ⟨b,o,none⟩) N c) (some (.int .i64 1)) none none=some (.slice (some ⟨b,o+3,none⟩) (N - 1) (c - 1)):=vE (S9.fr.rom.trans hrom) hat0.1 (by omega) hc
   have hbs11:aY Tryz.prog 71 2 [(0,v9),(1,v10)]=some (.cells ⟨[v9,v10],3,0,0,false⟩,fun b=>.slice (some ⟨b,0,none⟩) 2 2):=by
    rw[yV 2 (by decide),hv9,hv10]
    rfl
   have i0:ap Tryz.prog 46 (.slice (some ⟨b,o,none⟩) N c) (.int .i64 0)=some (.pointer (some ⟨b,o+0*3,none⟩)):=oz (i:=0) (by omega)
   have i12:ap Tryz.prog 70 rv10 (.int .i64 (tbl.length:Int))=some (.pointer (some ⟨b12,tbl.length,none⟩)):=by
    have:=pO (b:=b12) (o:=0) (n:=n12) (c:=n12) hlt12
    rw[e12b]
    rwa[Nat.zero_add] at this
   simp -dsimp only[go_sem,g0,g1,hm5,hbs7,hh6,bP,happ8,hs8,aa hP8,hdt,hdl]
   refine aD (n:=78) [[],[],[1],[1,2],[1,2,3],[0,1,2,3,4],[],[],[7],[7,8],[7,8,9],[0,1,2,3,4,5,6,7,8,9,10],[0,1,2,3,4,5,6,7,8,9,10,11],[0,1,2,3,4,5,6,7,8,9,10,11,12]] (by simp -dsimp only[go_sem,hn]) (ao (by kernel_rfl)) ?_
   simp -dsimp only[go_sem,g0,aa hP8,i0,az (n:=3) hrom8 hat0 rfl,ab hk0.same,Option.toList_some,Option.toList_none,List.cons_append,List.nil_append,List.append_nil,evList,Option.bind_some,Option.bind_none,hsl,hsl9,aa hP9]
   have hne89:¬h8=h9:=by
    intro e
    rw[e] at hM8
    have e2:=q2.2.2
    rw[hM8.2.2] at e2
    injection e2 with e2
    injection e2 with e2
    injection e2 with e2
    simp only[cL,List.cons.injEq] at e2
    obtain ⟨_,A3,w1,_,_,_⟩:=q3.lens
    obtain ⟨A4,_,w2,_,_,_⟩:=hT8.lens
    have w3:=e2.2.1
    rw[w2,‹lv9=_›] at w3
    injection w3 with _ w3
    have:=oX x (tbl.length+1)
    simp at w3
    omega
   refine ⟨v9,h9,hs9,?_⟩
   simp -dsimp only[go_sem,g0,aa hP8,i0,az (n:=3) hrom8 hat0 rfl,ab hk0.same,Option.toList_some,Option.toList_none,List.cons_append,List.nil_append,List.append_nil,evList,Option.bind_some,Option.bind_none,hsl,hsl9,aa hP9]
   refine ⟨v10,h10,hs10,fun _ e=>hne89 e,?_⟩
   subst e12b
   simp -dsimp only[go_sem,g0,hbs11,hh11,hm12,i12,hs12,hr]
   exact hres
  ·have hdl:decide ((1:Int)<(l.length:Int))=false:=dcF (by omega)
   simp -dsimp only[go_sem,g0,g1,hm5,hbs7,hh6,bP,happ8,hs8,aa hP8,hdt,hdl]
   refine done (fun c=>hl1 c.2) _ (by simp -dsimp only[go_sem,hn]) (by simp -dsimp only[go_sem,g0]) (by simp -dsimp only[go_sem]) (by simp -dsimp only[go_sem]) (by simp -dsimp only[go_sem]) (by simp -dsimp only[go_sem]) (by simp -dsimp only[go_sem]) _ (fun a1 h9 h10 b2 n2 kv A9 nk hn1 w1 w3 w4 w5 w6 p0 p5 p6 => ?_)
   subst w1
   simp -dsimp only[go_sem,p0,p5,p6,w5,i12 b2 n2 w3,w4,hr]
   exact w6
 ·have hdt:decide (d.data.toList=[115,101,113])=false:=dcF hd
  simp -dsimp only[go_sem,g0,g1,hm5,hbs7,hh6,bP,happ8,hs8,aa hP8,hdt]
  refine done (fun c=>hd c.1) _ (by simp -dsimp only[go_sem,hn]) (by simp -dsimp only[go_sem,g0]) (by simp -dsimp only[go_sem]) (by simp -dsimp only[go_sem]) (by simp -dsimp only[go_sem]) (by simp -dsimp only[go_sem]) (by simp -dsimp only[go_sem]) _ (fun a1 h9 h10 b2 n2 kv A9 nk hn1 w1 w3 w4 w5 w6 p0 p5 p6 => ?_)
  subst w1
  simp -dsimp only[go_sem,p0,p5,p6,w5,i12 b2 n2 w3,w4,hr]
  exact w6
end
end Go.Ev.Z24
end
