/- The law MakesAll holds: for every grammar, rule and number, Makes answers with the document's lists in their order, where the document's answer speaks (at most 300 lists, of at most 6 items): part 6 of 6. -/
import Derived.Test.YtcnllhnhinmokaaGreatMA4
set_option linter.unusedVariables false
set_option linter.unusedSimpArgs false
set_option maxRecDepth 100000
set_option maxHeartbeats 16000000
section
namespace Go.Ev.Z24
open Go.RowKit Go.Proofs
section
variable {r:Ro} {G:List ar} {Gv:Option Addr} {gc:Nat}
def C7 (G:List ar) (rule:ByteArray) (most:Int) (made:List (List Tx)) (h:Hp) (v:Value) (h1:Hp):Prop:=Ext h h1 /\
 ((¬okM G rule/\v=.tuple #[.slice none 0 0,.int .i64 240])\/(okM G rule/\∃w,v=.tuple #[w,.int .i64 0]/\∃ps:Prs,LK h1 (fun _=>False) (fun _=>False) w ps/\PrK h1 (fun _=>False) (fun _=>False) ps/\aK ps=th G rule most made))
theorem BH {gb go:Nat} {gcss:Nat->List Value} (RR:bd r G Gv gc gb go gcss) (hft:lp G) (hbig:(bB (eM G) 0).length<=100000) (hk4:∀(k:Nat) (p:ad) (ks:List Nat),(bB (eM G) 0)[k]? = some (p,ks)->ks.length<=400) (rule:ByteArray) (most:Int) (hmost:most<=1000)
  (n cap:Nat) (made:List (List Tx)) (hsay:okM G rule->¬most<0->most=(n:Int)/\cap<=900/\sL G n cap made) (h:Hp) (hrom:h.rom=r) (hb:h.base<=h.next) :
  ∃v h1,Snd Tryz.prog 8 [.agg #[.slice Gv G.length gc],.string rule,.int .i64 most] h v h1/\C7 G rule most made h v h1:=by
 refine aL wf Tryz.func8 rfl rfl (n:=153) rfl (by kernel_rfl) rfl ?_
 intro a hn hg
 have hr:Tryz.f8.results.toList=[.tmp 6,.tmp 7]:=rfl
 have g0:=hg 0
 have g1:=hg 1
 have g2:=hg 2
 clear hg
 simp only[gC0,gC1] at g0 g1 g2
 have hP:=an hb 24 [.slice Gv G.length gc]
 have hx0:=Ext.new h (ak.cells ⟨[.slice Gv G.length gc],24,0,0,false⟩)
 have hnx:(h.newH (ak.cells ⟨[.slice Gv G.length gc],24,0,0,false⟩)).next=h.next+1:=rfl
 simp -dsimp only[go_sem,g0,g1,g2]
 generalize h.newH (ak.cells ⟨[.slice Gv G.length gc],24,0,0,false⟩)=h2 at hP hx0 hnx ⊢
 have hb2:h2.base<=h2.next:=by rw[hx0.base];exact lTr hb hx0.next
 obtain ⟨_,h3,hs3,hx3,hv⟩:=Df RR hft rule h2 (hx0.rom.trans hrom) hb2
 have hx03:=hx0.trans hx3
 rcases hv with ⟨rfl,hno⟩|⟨hrg,bk,m,eb,em,rfl,hbk,hm,heb,Bk,Fd,hw⟩
 ·have no:¬okM G rule:=by
   rintro ⟨⟨q1,em1,f1,w1⟩,_⟩
   obtain ⟨em2,f2,w2⟩:=hno q1
   rw[f2.uniq f1,w1] at w2
   cases w2
  have hb3:h3.base<=h3.next:=by rw[hx3.base];exact lTr hb2 hx3.next
  have hw0:=an hb3 48 [.string ⟨#[]⟩,.string ⟨#[]⟩,.slice none 0 0]
  have hst:=aE (o:=0) (vs:=[.string ⟨#[]⟩,.string ⟨#[]⟩,.slice none 0 0]) (c1:=[.string ⟨#[]⟩,.string ⟨#[]⟩,.slice none 0 0]) hw0 rfl rfl (by simp)
  have hx4:=(Ext.new h3 (ak.cells ⟨[.string ⟨#[]⟩,.string ⟨#[]⟩,.slice none 0 0],48,0,0,false⟩)).put (b:=h3.next) (lRf _) (ak.cells ⟨[.string ⟨#[]⟩,.string ⟨#[]⟩,.slice none 0 0],48,0,0,false⟩)
  simp -dsimp only[go_sem,g1,af hP]
  refine ⟨_,h3,hs3,?_⟩
  simp -dsimp only[go_sem,hst,Bool.not_false,hr]
  exact ⟨hx03.trans hx4,.inl ⟨no,rfl⟩⟩
 ·have hb3:h3.base<=h3.next:=by rw[hx3.base];exact lTr hb2 hx3.next
  have hnl:(nms G).length=G.length:=by simp[nms]
  have hidx:ae (nms G) rule<G.length:=by
   have q:=hw
   unfold gB at q
   rw[Bool.and_eq_true] at q
   exact dcO q.2
  have hrl:dv (nms G) G=true:=by
   have:=hrg
   rw[co,Bool.and_eq_true,Bool.and_eq_true] at this
   exact this.2
  have hnG:=ew hrl
  have hok1:co G=true/\∃em,Found G em/\gB G em rule=true:=⟨hrg,em,Fd,hw⟩
  have hel:em.length=G.length:=Bk.len.trans hnl
  have hw0:=an hb3 48 [.string ⟨#[]⟩,.string ⟨#[]⟩,.slice none 0 0]
  have hst:=aE (o:=0) (vs:=[.string ⟨#[114,117,108,101]⟩,.string rule,.slice none 0 0]) (c1:=[.string ⟨#[114,117,108,101]⟩,.string rule,.slice none 0 0]) hw0 rfl rfl (by simp)
  have hx4:=(Ext.new h3 (ak.cells ⟨[.string ⟨#[]⟩,.string ⟨#[]⟩,.slice none 0 0],48,0,0,false⟩)).put (b:=h3.next) (lRf _) (ak.cells ⟨[.string ⟨#[114,117,108,101]⟩,.string rule,.slice none 0 0],48,0,0,false⟩)
  have hP4:=av hw0 [.string ⟨#[114,117,108,101]⟩,.string rule,.slice none 0 0]
  have hN4:((h3.newH (ak.cells ⟨[.string ⟨#[]⟩,.string ⟨#[]⟩,.slice none 0 0],48,0,0,false⟩)).put h3.next (ak.cells ⟨[.string ⟨#[114,117,108,101]⟩,.string rule,.slice none 0 0],48,0,0,false⟩)).next=h3.next+1:=rfl
  generalize hh4:(h3.newH (ak.cells ⟨[.string ⟨#[]⟩,.string ⟨#[]⟩,.slice none 0 0],48,0,0,false⟩)).put h3.next (ak.cells ⟨[.string ⟨#[114,117,108,101]⟩,.string rule,.slice none 0 0],48,0,0,false⟩)=h4 at hst hx4 hP4 hN4
  simp -dsimp only[go_sem,g1,af hP]
  refine ⟨_,h3,hs3,?_⟩
  simp -dsimp only[go_sem,hst,Bool.not_true,bu]
  have hx14:Ext h2 h4:=hx3.trans hx4
  have hb4:h4.base<=h4.next:=by rw[hx4.base];exact lTr hb3 hx4.next
  have m1:=lU hb4
  obtain ⟨h5,hh5⟩:∃x,x=((h4.newH (.map [] 0)).newH (.map [] 0)).newH (.map [] 0):=⟨_,rfl⟩
  have hn5:h5.next=h4.next+1+1+1:=by rw[hh5];rfl
  have hx45:Ext h4 h5:=by rw[hh5];exact ((Ext.new _ _).trans (Ext.new _ _)).trans (Ext.new _ _)
  have hb5:h5.base<=h5.next:=by rw[hx45.base];exact lTr hb4 hx45.next
  have M1:MemAt h5 h4.next []:=by
   rw[hh5]
   exact (lU hb4).extS (S:=fun _=>False) ((Ext.new _ _).trans (Ext.new _ _)).toS (fun c=>c)
  have M2:MemAt h5 (h4.next+1) []:=by
   rw[hh5]
   exact (lU (h:=h4.newH (.map [] 0)) (Nat.le_succ_of_le hb4)).extS (S:=fun _=>False) (Ext.new _ _).toS (fun c=>c)
  have M3:MemI h5 (h4.next+2) []:=by
   rw[hh5]
   exact zJ (h:=(h4.newH (.map [] 0)).newH (.map [] 0))
  have Bk5:=(Bk.ext hx4).ext hx45
  have hP5:=aj (hx14.trans hx45) hP
  have hQ5:=aj hx45 hP4
  rw[<-hh5,<-hn5]
  have hx56:=Ext.new h5 (ak.cells { c:=cL bk (.slice none 0 0) (.slice none 0 0) (.slice none 0 0) (.map (some h4.next)) (.map (some (h4.next+1))) (.bool false) (.map (some (h4.next+1+1))),e:=73,fam:=0,base:=0,grown:=false })
  have hM6:=an hb5 73 (cL bk (.slice none 0 0) (.slice none 0 0) (.slice none 0 0) (.map (some h4.next)) (.map (some (h4.next+1))) (.bool false) (.map (some (h4.next+1+1))))
  have hN6:(h5.newH (ak.cells { c:=cL bk (.slice none 0 0) (.slice none 0 0) (.slice none 0 0) (.map (some h4.next)) (.map (some (h4.next+1))) (.bool false) (.map (some (h4.next+1+1))),e:=73,fam:=0,base:=0,grown:=false })).next=h5.next+1:=rfl
  unfold cL at hx56 hM6 hN6
  generalize h5.newH (ak.cells ⟨[.pointer (some ⟨bk,0,none⟩),.slice none 0 0,.slice none 0 0,.slice none 0 0,.map (some h4.next),.map (some (h4.next+1)),.bool false,.map (some (h4.next+1+1))],73,0,0,false⟩)=h6 at hx56 hM6 hN6 ⊢
  have hM6:h6.own h5.next 73 (cL bk (.slice none 0 0) (.slice none 0 0) (.slice none 0 0) (.map (some h4.next)) (.map (some (h4.next+1))) (.bool false) (.map (some (h4.next+1+1)))):=hM6
  have hb6:h6.base<=h6.next:=by rw[hx56.base];exact lTr hb5 hx56.next
  have hP6:=aj hx56 hP5
  have hQ6:=aj hx56 hQ5
  have hrom6:h6.rom=r:=(((hx03.trans hx4).trans hx45).trans hx56).rom.trans hrom
  have hx67:=Ext.new h6 (ak.cells { c:=(List.replicate G.length false).map .bool,e:=4,fam:=0,base:=0,grown:=false })
  have ht7:=an hb6 4 ((List.replicate G.length false).map .bool)
  have hP7:=aj hx67 hP6
  have hQ7:=aj hx67 hQ6
  have hbkl:bk<h5.next:=Bk5.own.2.1
  have hml:=Bk5.map.1
  have hml3:m<h4.next:=lTl Bk.map.1 hx4.next
  have hel5:eb<h5.next:=Bk5.row.2.1
  obtain ⟨_,h8,hs8,hx78,⟨o1,s8⟩,hR8,rfl,_,_,_⟩:=zA (mb:=h5.next) (bk:=bk) (m:=m) (eb:=eb) (tb:=h6.next) (em:=em) (by omega) (by omega) (by omega) (by omega) RR hnG _ _ (jT rule) (lSs _) _ _ (List.replicate G.length false) (hx67.rom.trans hrom6) (Nat.le_succ_of_le hb6) (oJ r rule) (jf (by rw[hnl];exact hidx)) ht7 (by simp) (lRf _) (aj hx67 hM6) ((Bk5.ext hx56).ext hx67)
  have hx68:Ext h6 h8:=(hx67.toS.trans hx78).ext (fun b hb c=>absurd (show b=h6.next from c) (by omega))
  refine aD (n:=153) [[],[],[],[2],[2,3],[2,3,4],[0,1,2,3,4,5],[0,1,2,3,4,5,6]] (by simp -dsimp only[go_sem,hn]) (ao (by kernel_rfl)) ?_
  simp -dsimp only[go_sem,aa hP6,af hP6,af hQ6,af hQ7,aa hP7,jS G.length G.length (lRf _) RR.hb,cl,ab RR.hs]
  refine ⟨_,h8,hs8,?_⟩
  have hx08:Ext h h8:=(((hx03.trans hx4).trans hx45).trans hx56).trans hx68
  cases o1 with
  | false =>
    simp -dsimp only[go_sem,Bool.not_false,hr]
    refine ⟨hx08,.inl ⟨?_,rfl⟩⟩
    rintro ⟨_,s7,hR7⟩
    have:=hR8.det hR7
    injection this with this
    cases this
  | true =>
  have hPl:PlR G rule true:=⟨s8,hR8⟩
  have hok:okM G rule:=⟨hok1,hPl⟩
  obtain ⟨S,hS0,hSl,hSp,hSq⟩:=xj hnG hidx hPl
  have hb8:h8.base<=h8.next:=by rw[hx08.base];exact lTr hb hx08.next
  have hP8:=aj hx68 hP6
  have hM8:=aj hx68 hM6
  simp -dsimp only[go_sem,Bool.not_true,aa hP8,af hP8]
  refine tg (n0:=h5.next) (f0:=h5.nfam) (mb:=h5.next) (lRf _) RR hbig (FT8:=fun _=>0) (by simp -dsimp only[go_sem,hn]) (hx08.rom.trans hrom) hb8 (lTr hx56.next hx68.next) (lTr hx56.nfam hx68.nfam) hM8 (by simp -dsimp only[go_sem]) (by simp -dsimp only[go_sem]) (by simp -dsimp only[go_sem]) (by simp -dsimp only[go_sem]) (fun a1 h9 FT lv rv xr hn1 M9 T9 K9 E9 rom9 b9 nx9 KR => ?_)
  obtain ⟨r1,r2,r3,r8,r9,r11⟩:=KR
  have hx59:Ext h5 h9:=(E9 (fun _=>False) h5 (hx56.trans hx68).toS (lRf _) (lRf _)).ext (fun _ _ c=>c)
  have hP9:=aj hx59 hP5
  have hQ9:=aj hx59 hQ5
  have Bk9:=Bk5.ext hx59
  simp -dsimp only[go_sem,r1,r2,r3,r8,r9,r11,aa hP9,jS G.length G.length (lRf _) RR.hb,cl]
  have hx9a:=Ext.new h9 (ak.cells { c:=(List.replicate G.length false).map .bool,e:=4,fam:=0,base:=0,grown:=false })
  have hta:=an b9 4 ((List.replicate G.length false).map .bool)
  have hn9:=hx59.next
  refine zG (tb:=h9.next) (gp:=h.next) (mb:=h5.next) (em:=em) RR hnG (by have:=M9.2.1;omega) (by omega) (by omega) (by omega) (by have:=hP9.2.1;omega) (by simp -dsimp only[go_sem,hn1]) (hx9a.rom.trans rom9) (Nat.le_succ_of_le b9) hta (by simp) (zI _) (aj hx9a M9) (Bk9.ext hx9a) (aj hx9a hP9) (by simp -dsimp only[go_sem,r3]) (by simp -dsimp only[go_sem,r11]) (by simp -dsimp only[go_sem]) (by simp -dsimp only[go_sem]) (fun a2 h11 pr hn2 hx11 S11 l11 pc11 cl11 KG => ?_)
  obtain ⟨p1,p2,p3,p8,p9,p11,p14⟩:=KG
  have hx911:Ext h9 h11:=(hx9a.toS.trans hx11).ext (fun b hb c=>absurd (show b=h9.next from c) (by omega))
  have b11:h11.base<=h11.next:=by rw[hx911.base];exact lTr b9 hx911.next
  have hP11:=aj hx911 hP9
  have hQ11:=aj hx911 hQ9
  have Bk11:=Bk9.ext hx911
  have hn11:=hx911.next
  have hta11:=S11.2.1
  have hx11b:=Ext.new h11 (ak.cells { c:=(List.replicate G.length false).map .bool,e:=4,fam:=0,base:=0,grown:=false })
  have htb:=an b11 4 ((List.replicate G.length false).map .bool)
  have M3':MemI h11 (h4.next+2) []:=M3.extS (S:=fun _=>False) (hx59.trans hx911).toS (fun c=>c)
  obtain ⟨R,mo,hmo,hRiff,hRall⟩:∃(R:ByteArray->Tx->Prop) (mo:Nat),mo<=1000/\(∀t:ByteArray,S (ae (nms G) t)->∀w:Tx,R t w->w.length<=mo/\mkM R (aZ G (ae (nms G) t)) w) /\
    ((most<0/\R=fun _ _=>False)\/(¬most<0/\most=(n:Int)/\mo=n/\cap<=900/\sL G n cap made/\R=RM (nms G) made)):=by
   by_cases c:most<0
   ·exact ⟨fun _ _=>False,0,by decide,fun _ _ _ q=>q.elim,.inl ⟨c,rfl⟩⟩
   ·obtain ⟨e1,e2,e3⟩:=hsay hok c
    obtain ⟨rk,Kx⟩:=lV Fd hel hw hSl hSp hSq e3
    exact ⟨RM (nms G) made,n,by omega,fun t ht w q=>(Kx.iff ht w).1 q,.inr ⟨c,e1,rfl,e2,e3,rfl⟩⟩
  have hprs:∀(p:ad) (w:Tx),plP S (ae (nms G)) p->mkM R p w->prB (nms G) pr p=true:=by
   rcases hRall with ⟨_,rfl⟩|⟨_,_,_,_,e3,rfl⟩
   ·exact fun p w _ q=>lT (R:=fun _ _=>False) (fun _ _ c=>c.elim) _ p w q (lSs _)
   ·obtain ⟨rk,Kx⟩:=lV Fd hel hw hSl hSp hSq e3
    exact BF Kx cl11
  have C:xn R S mo G pr h9.next h11.next h5.next bk m eb (h4.next+1+1):=⟨by omega,by omega,by omega,by omega,by omega,by omega,by omega,by omega,l11,hprs,hRiff,pc11,hSp⟩
  have L12:LRd r G Gv gc h9.next h11.next h5.next bk m eb (h4.next+1+1) em pr (List.replicate G.length false) lv rv xr (.map (some h4.next)) (.map (some (h4.next+1))) (.bool false) R mo _:=⟨hx11b.rom.trans (hx911.rom.trans rom9),Nat.le_succ_of_le b11,htb,by simp,aj hx11b S11,aj hx11b (aj hx911 M9),Bk11.ext hx11b,[],M3'.extS (S:=fun _=>False) hx11b.toS (fun c=>c),fun k v c=>by simp at c⟩
  obtain ⟨_,h13,hs13,z,rfl,z1,z2,z3,z4,hx13,L13⟩:=BE C RR hnG _ _ (jT rule) (lSs _) _ _ _ L12 (oJ r rule) (jf (by rw[hnl];exact hidx)) (zK hS0) (lRf _)
  simp -dsimp only[go_sem,p1,p2,p3,p8,p9,p11,p14,r1,r2,r3,r8,r9,r11,g1,g2]
  refine aD (n:=153) [[],[],[],[],[],[4],[4,5],[4,5,6],[1,2,3,4,5,6,7],[0,1,2,3,4,5,6,7,8],[0,1,2,3,4,5,6,7,8,9]] (by simp -dsimp only[go_sem,hn2]) (ao (by kernel_rfl)) ?_
  simp -dsimp only[go_sem,p1,p2,p3,p8,p9,p11,p14,r1,r2,r3,r8,r9,r11,g1,g2,aa hP11,af hP11,af hQ11,af (aj hx11b hQ11),aa (aj hx11b hP11),jS G.length G.length (lRf _) RR.hb,cl,ab RR.hs]
  refine ⟨_,h13,hs13,?_⟩
  simp -dsimp only[go_sem,p1,p2,p3,p8,p9,p11,p14,r1,r2,r3,r8,r9,r11,g1,g2,d6]
  have hx1113:ExtS (aR (h4.next+1+1)) h11 h13:=(hx11b.toS.trans hx13).mono (fun b hb c=>by
   rcases c with c|c
   ·omega
   ·exact c)
  have hx913:ExtS (aR (h4.next+1+1)) h9 h13:=hx911.toS.trans hx1113
  have hx513:ExtS (aR (h4.next+1+1)) h5 h13:=hx59.toS.trans hx913
  have i9:IsMap h9 (h4.next+1+1):=(M3.extS (S:=fun _=>False) hx59.toS (fun c=>c)).isMap
  have b13:h13.base<=h13.next:=L13.bn
  have hn13:=hx913.next
  have M1':MemAt h13 h4.next []:=M1.extS hx513 (fun c=>absurd (show h4.next=h4.next+1+1 from c) (by omega))
  have M2':MemAt h13 (h4.next+1) []:=M2.extS hx513 (fun c=>absurd (show h4.next+1=h4.next+1+1 from c) (by omega))
  have K13:MkR r G h13 h5.next h5.nfam FT h5.next bk m eb em (.slice Gv G.length gc) lv rv xr (.map (some (h4.next+1+1))) h4.next (h4.next+1) (bB (eM G) 0) (cY (eM G) 0) :=
   C6 L13.hm (T9.keepO hx913 i9) (SlL.keepO K9 hx913 i9) L13.hbk (by omega) (by omega) (by omega)
  obtain ⟨kk,hkk,hNum⟩:=qh G _ _ (gEl hidx)
  have hbd:G[ae (nms G) rule].body=aZ G (ae (nms G) rule):=by unfold aZ;rw[gEl hidx]
  rw[hbd] at hNum
  have hmm:mm false most z<=most/\mm false most z<=z/\(mm false most z=most\/mm false most z=z):=by
   simp only[mm,dH]
   split<;>rename_i q<;>simp only[decide_eq_true_iff,decide_eq_false_iff_not] at q<;>omega
  generalize mm false most z=zz at hmm
  obtain ⟨q1,q2,q3⟩:=hmm
  have hbr:=fa hnG hidx
  have hub:¬most<0->∀t:Tx,mkM R (aZ G (ae (nms G) rule)) t->t.length<=n->most=(n:Int)->mo=n->(∀w:Tx,w.length<=n->mkM R (aZ G (ae (nms G) rule)) w->R rule w)->(t.length:Int)<=zz:=by
   intro _ t ht htn e1 e2 hR
   have:=z4 t (by omega) ((jB rfl t).2 (hR t htn ht))
   omega
  refine C5 (R:=R) (p:=aZ G (ae (nms G) rule)) (BS:=fun _=>False) (FS:=fun _=>False) (B8:=fun _=>False) (F8:=fun _=>False) (z:=zz) (by omega) b13 K13 M1'.isMap M2'.isMap (by rw[hnl];exact hidx) hkk ?_ ?_ ?_ (LSt.start (Ext.refl _) (fun _ c=>c.elim) (fun _ c=>c.elim) M1' (fun k n v p c=>by simp at c) M2' (fun k n v p c=>by simp at c)) (by simp -dsimp only[go_sem,hn2]) (by simp -dsimp only[go_sem,p1,r1,g1]) (by simp -dsimp only[go_sem]) (by simp -dsimp only[go_sem,p8,r8]) (by simp -dsimp only[go_sem,p11,r11]) (by simp -dsimp only[go_sem]) (by simp -dsimp only[go_sem]) (fun a3 h15 B9 F9 v9 ps9 hn3 L9 hso hmem q18 => ?_)
  ·intro j hj
   rcases hRall with ⟨c,rfl⟩|⟨_,e1,_,e2,e3,rfl⟩
   ·omega
   ·obtain ⟨rk,Kx⟩:=lV Fd hel hw hSl hSp hSq e3
    exact Cs Kx hnG (by omega) K13.num j (by omega) (G.length+1) kk _ hNum (hSp _ hS0) hbr (fun t _=>by have:=Kx.rkn (ae (nms G) t);omega)
  ·intro j hj
   rcases hRall with ⟨c,rfl⟩|⟨_,e1,_,e2,e3,rfl⟩
   ·omega
   ·obtain ⟨rk,Kx⟩:=lV Fd hel hw hSl hSp hSq e3
    exact BA Kx hnG (by omega) K13.num hk4 j (by omega) (G.length+1) kk _ hNum (hSp _ hS0) hbr (fun t _=>by have:=Kx.rkn (ae (nms G) t);omega) (BG Kx e2 hS0 (by omega))
  ·intro Q hQ hall
   rcases hRall with ⟨c,rfl⟩|⟨_,e1,_,e2,e3,rfl⟩
   ·cases Q with
    | nil=>exact lZr _
    | cons u Q=>have:=(hall u (.head _)).1;omega
   ·obtain ⟨rk,Kx⟩:=lV Fd hel hw hSl hSp hSq e3
    exact vN Kx e2 hS0 Q hQ (fun u hu=>⟨by have:=(hall u hu).1;omega,(hall u hu).2⟩)
  simp -dsimp only[go_sem,q18,hr]
  have hx15:Ext h h15:=by
   have e1:Ext h h4:=hx03.trans hx4
   have e2:=(e1.trans hx45).toS (S:=fun b=>h4.next<=b/\b<h5.next)
   refine ((e2.trans (hx513.mono (fun b hb c => ?_))).trans (L9.x.mono (fun b hb c => ?_))).ext (fun b hb c => ?_)
   ·have c:b=h4.next+1+1:=c
    omega
   ·rcases c with c|c<;>omega
   ·have:=e1.next
    omega
  refine ⟨hx15,.inr ⟨hok,v9,rfl,ps9,?_,?_,?_⟩⟩
  ·rcases L9.a with ⟨e1,e2⟩|⟨b,f,js,e1,e2,_⟩
   ·exact .inl ⟨e1,e2⟩
   ·exact .inr ⟨b,f,js,e1,e2,fun c=>c,fun c=>c⟩
  ·exact L9.p.any
  ·unfold th
   rcases hRall with ⟨c,rfl⟩|⟨c,e1,e0,e2,e3,rfl⟩
   ·rw[if_pos c]
    cases hs:aK ps9 with
    | nil=>rfl
    | cons u U =>
      have:=(hmem u).1 (by rw[hs];exact .head _)
      omega
   ·rw[if_neg c]
    obtain ⟨rk,Kx⟩:=lV Fd hel hw hSl hSp hSq e3
    have hm:made[ae (nms G) rule]? = some (made[ae (nms G) rule]'(by rw[e3.len];exact hidx)):=gEl _
    have hg:made.getD (ae (nms G) rule) []=made[ae (nms G) rule]'(by rw[e3.len];exact hidx):=by simp[List.getD,hm]
    rw[hg]
    refine uO hso (e3.inv.sorted _ (List.getElem_mem _)) (fun t => ?_)
    rw[hmem,e3.fix _ _ (hSq _ hS0) hm]
    constructor
    ·rintro ⟨w1,w2⟩
     exact ⟨by omega,w2⟩
    ·rintro ⟨w1,w2⟩
     exact ⟨hub c t w2 w1 e1 e0 (fun w k1 k2=>(Kx.iff hS0 w).2 ⟨k1,k2⟩),w2⟩
end
mutual
def tj:ad->Nat
 | ⟨_,_,l⟩=>gP l+1
def gP:List ad->Nat
 | []=>0
 | x::l=>tj x+gP l
end
mutual
theorem qu (most:Nat):∀(p:ad) (deep:Nat),cG most deep p<=most->tj p<=cG most deep p
 | ⟨d,t,l⟩,deep,h=>by
   rw[cG] at h ⊢
   rw[tj]
   by_cases c1:deep=0
   ·rw[if_pos c1] at h;omega
   rw[if_neg c1] at h ⊢
   by_cases c2:200<t.data.toList.length
   ·rw[if_pos c2] at h;omega
   rw[if_neg c2] at h ⊢
   by_cases c3:40<d.data.toList.length
   ·rw[if_pos c3] at h;omega
   rw[if_neg c3] at h ⊢
   have:=o6 most l (deep - 1) 1 h
   omega
theorem o6 (most:Nat):∀(l:List ad) (deep n:Nat),dg most deep l n<=most->n+gP l<=dg most deep l n
 | [],deep,n,h=>by rw[dg,gP];omega
 | x::l,deep,n,h=>by
   rw[dg] at h ⊢
   rw[gP]
   by_cases c:n<=most
   ·rw[if_pos c] at h ⊢
    have h1:=o6 most l deep _ h
    have h2:=qu most x deep (by omega)
    omega
   ·rw[if_neg c] at h;omega
end
theorem o7 (p:ad):1<=tj p:=by cases p;rw[tj];omega
theorem vQ:∀l:List ad,l.length<=gP l
 | []=>lZr _
 | x::l=>by rw[List.length_cons,gP];have:=vQ l;have:=o7 x;omega
mutual
theorem o8:∀(p:ad) (n:Nat),(bz p n).length+1<=2*tj p/\∀e∈bz p n,e.2.length<=tj p+1
 | ⟨d,t,l⟩,n=>by
   rw[bz,tj]
   by_cases c:d.data.toList=[115,101,113]
   ·rw[if_pos c]
    exact tn d t l n
   ·rw[if_neg c]
    obtain ⟨h1,h2⟩:=o9 l (n+1)
    refine ⟨by rw[List.length_cons];omega,fun e he => ?_⟩
    rcases mCo.1 he with rfl|he
    ·have:=fq l (n+1)
     have:=vQ l
     show (cY l (n+1)).length<=_
     omega
    ·have:=h2 e he
     omega
theorem tn (d t:ByteArray):∀(l:List ad) (n:Nat),(d8 d t l n).length+1<=2*(gP l+1)/\∀e∈d8 d t l n,e.2.length<=gP l+1+1
 | [],n=>by
   rw[d8,gP]
   refine ⟨by simp,fun e he => ?_⟩
   rw[List.mem_singleton] at he
   subst he
   simp
 | [x],n=>by
   rw[d8,gP,gP]
   obtain ⟨h1,h2⟩:=o8 x (n+1)
   refine ⟨by rw[List.length_cons];omega,fun e he => ?_⟩
   rcases mCo.1 he with rfl|he
   ·simp
   ·have:=h2 e he
    omega
 | x::y::l,n=>by
   rw[d8,gP]
   obtain ⟨h1,h2⟩:=o8 x (n+1)
   obtain ⟨h3,h4⟩:=tn dx noT (y::l) (n+1+(bz x (n+1)).length)
   refine ⟨by rw[List.length_cons,List.length_append];omega,fun e he => ?_⟩
   rcases mCo.1 he with rfl|he
   ·show 2<=_
    omega
   ·rcases List.mem_append.1 he with he|he
    ·have:=h2 e he
     omega
    ·have:=h4 e he
     have:=o7 x
     omega
theorem o9:∀(l:List ad) (n:Nat),(bB l n).length+l.length<=2*gP l/\∀e∈bB l n,e.2.length<=gP l+1
 | [],n=>by rw[bB];exact ⟨by simp,fun e he=>by simp at he⟩
 | x::l,n=>by
   rw[bB,gP]
   obtain ⟨h1,h2⟩:=o8 x n
   obtain ⟨h3,h4⟩:=o9 l (n+(bz x n).length)
   refine ⟨by rw[List.length_append,List.length_cons];omega,fun e he => ?_⟩
   rcases List.mem_append.1 he with he|he
   ·have:=h2 e he
    omega
   ·have:=h4 e he
    have:=o7 x
    omega
end
theorem qv {most:Nat}:∀(G:List ar) (n k:Nat),eP most G n=some k->k<=most->n+gP (eM G)<=k
 | [],n,k,h,_=>by
   simp only[eP,Option.some.injEq] at h
   simp[gP]
   omega
 | x::G,n,k,h,hk=>by
   rw[eP] at h
   by_cases c:n<=most
   ·rw[if_pos c] at h
    by_cases c2:200<x.name.data.toList.length
    ·rw[if_pos c2] at h;cases h
    rw[if_neg c2] at h
    have h1:=qv G _ k h hk
    have h2:=qu most x.body 40 (by omega)
    show n+gP (x.body::eM G)<=k
    rw[gP]
    omega
   ·rw[if_neg c] at h
    injection h with h
    omega
theorem xw {G:List ar} {most:Nat} (hm:most<=100) (h:gh most G=true):(bB (eM G) 0).length<=100000/\∀(k:Nat) (p:ad) (ks:List Nat),(bB (eM G) 0)[k]? = some (p,ks)->ks.length<=400:=by
 unfold gh at h
 split at h
 ·cases h
 ·rename_i n hn
  rw[Bool.and_eq_true] at h
  have h1:=qv G 0 n hn (dcO h.1)
  have h2:=dcO h.1
  obtain ⟨q1,q2⟩:=o9 (eM G) 0
  refine ⟨by omega,fun k p ks hk => ?_⟩
  have:=q2 _ (mOg hk)
  simp only at this
  omega
section
variable {r:Ro} {G:List ar} {Gv:Option Addr} {gc:Nat}
theorem TxK.strsAt {h:Hp} {B F:Nat->Prop} {v:Value} {ss:Tx} (k:TxK h B F v ss):StrsAt h v ss:=by
 rcases k with ⟨rfl,rfl⟩|⟨b,f,rfl,hr,_,_⟩
 ·exact ⟨none,0,rfl,rfl,fun c=>absurd rfl c⟩
 ·refine ⟨some ⟨b,0,none⟩,ss.length,rfl,rfl,fun _=>⟨b,0,rfl,fun i s hi => ?_⟩⟩
  rw[Nat.zero_add,bV hr]
  unfold dw
  rw[List.getElem?_map,hi]
  rfl
theorem C8 {h:Hp} {v:Value} {L:List Tx} (k:LLV h v L):∃ps:Prs,LK h (fun _=>False) (fun _=>False) v ps/\PrK h (fun _=>False) (fun _=>False) ps/\aK ps=L:=by
 obtain ⟨vs,h1,h2⟩:=k
 have hex:∀(vs:List Value) (L:List Tx),TxVs h vs L->∃ps:Prs,aX ps=vs/\PrK h (fun _=>False) (fun _=>False) ps/\aK ps=L:=by
  intro vs
  induction vs with
  | nil =>
    intro L q
    cases L with
    | nil=>exact ⟨[],rfl,fun p hp=>by simp at hp,rfl⟩
    | cons _ _=>exact q.elim
  | cons u vs ih =>
    intro L q
    cases L with
    | nil=>exact q.elim
    | cons w L =>
      obtain ⟨ps,e1,e2,e3⟩:=ih L q.2
      refine ⟨(u,w)::ps,by show u::aX ps=_;rw[e1],fun p hp => ?_,by show w::aK ps=_;rw[e3]⟩
      rcases mCo.1 hp with rfl|hp
      ·exact uG (n0:=0) (f0:=0) q.1 (fun _ c=>c.elim) (fun _ c=>c.elim)
      ·exact e2 p hp
 obtain ⟨ps,e1,e2,e3⟩:=hex vs L h2
 subst e1
 exact ⟨ps,(OwnZ.toC h1).toK (fun _ c=>c.elim) (fun _ c=>c.elim),e2,e3⟩
theorem vT {ps qs:Prs} {v u:Value} {hs:Hp} (hb:hs.base<=hs.next) (K:LK hs (fun _=>False) (fun _=>False) v ps) (P:PrK hs (fun _=>False) (fun _=>False) ps) (K1:LK hs (fun _=>False) (fun _=>False) u qs) (P1:PrK hs (fun _=>False) (fun _=>False) qs) (he:aK ps=aK qs) (hf:∀p∈ps,p.2.length<=1000000) (hl:ps.length<=1000000)
  {a:Ev.A} {Q:Ex->Ev.A->Hp->Prop} (hn:a.n=71) (g10:a.get 10=v) (g7:a.get 7=u) (g55:a.get 55=.int .i64 (ps.length:Int)) (g56:a.get 56=.int .i64 0)
  (hq:∀a1,a1.n=71->Q (.exit 0) a1 hs) :
  Th Tryz.prog (aw Tryz.f3 [1,1,1,1,1,1,0,1,0]) a hs Q ⟨⟩ ⟨⟩:=by
 have hlen:ps.length=qs.length:=by rw[<-cj ps,he,cj]
 simp only[aw,nav,Tryz.f3]
 refine au (n:=71) (by kernel_rfl) (fun m' a' h'=>∃i:Nat,i<=ps.length/\m'=ps.length - i/\h'=hs /\
  a'.get 10=v/\a'.get 7=u/\a'.get 55=.int .i64 (ps.length:Int)/\a'.get 56=.int .i64 (i:Int)) ?_ ps.length _ _ hn ⟨0,lZr _,rfl,rfl,g10,g7,g55,g56⟩
 rintro m' a' h' hn' ⟨i,hi,rfl,rfl,e10,e7,e55,e56⟩
 by_cases hlt:i<ps.length
 rotate_left
 ·have hi0:decide ((i:Int)<(ps.length:Int))=false:=dcF (by omega)
  simp -dsimp only[go_sem,e10,e7,e55,e56,hi0]
  exact hq _ (by simp -dsimp only[go_sem,hn'])
 have hlt2:i<qs.length:=by omega
 have hi1:decide ((i:Int)<(ps.length:Int))=true:=dcT (Int.ofNat_lt.2 hlt)
 obtain ⟨b1,c1,rfl,l1⟩:=K.load hlt
 obtain ⟨b2,c2,rfl,l2⟩:=K1.load hlt2
 have t1:=(P _ (List.getElem_mem hlt)).strsAt
 have t2:=(P1 _ (List.getElem_mem hlt2)).strsAt
 have e12:ps[i].2=qs[i].2:=by
  have q:(aK ps)[i]? = (aK qs)[i]? := by rw[he]
  unfold aK at q
  rw[List.getElem?_map,List.getElem?_map,gEl hlt,gEl hlt2] at q
  injection q with q
 obtain ⟨_,_,hs4,rfl,rfl⟩:=tH h' t1 t2 (hf _ (List.getElem_mem hlt))
 rw[e12,u4] at hs4
 have k1:ap Tryz.prog 27 (.slice (some ⟨b1,0,none⟩) ps.length c1) (.int .i64 (i:Int))=some (.pointer (some ⟨b1,i,none⟩)):=by
  have:=jO (b:=b1) (o:=0) (n:=ps.length) (c:=c1) (i:=i) hlt
  rwa[Nat.zero_add] at this
 have k2:ap Tryz.prog 27 (.slice (some ⟨b2,0,none⟩) qs.length c2) (.int .i64 (i:Int))=some (.pointer (some ⟨b2,i,none⟩)):=by
  have:=jO (b:=b2) (o:=0) (n:=qs.length) (c:=c2) (i:=i) hlt2
  rwa[Nat.zero_add] at this
 obtain ⟨A1,d1,s1,s2,_⟩:=t1
 obtain ⟨A2,d2,s3,s4,_⟩:=t2
 have m1:aB 9 ps[i].1 ps[i].1=true:=by rw[s1];exact ab s2 _ _ _
 have m2:aB 9 qs[i].1 qs[i].1=true:=by rw[s3];exact ab s4 _ _ _
 simp -dsimp only[go_sem,e10,e7,e55,e56,hi1]
 refine aD (n:=71) [[],[],[0,1],[0,1,2],[],[],[4,5],[4,5,6],[0,1,2,3,4,5,6,7],[0,1,2,3,4,5,6,7,8]] (by simp -dsimp only[go_sem,hn']) (by kernel_rfl) ?_
 simp -dsimp only[go_sem,e10,e7,e55,e56,k1,k2,l1,l2,m1,m2]
 refine ⟨_,_,hs4,?_⟩
 simp -dsimp only[go_sem,e10,e7,e55,e56,ah hlt (by omega)]
 exact ⟨ps.length - (i+1),by omega,i+1,hlt,rfl,by first|rfl|simp -dsimp only[go_sem]⟩
theorem C9 {gb go:Nat} {gcss:Nat->List Value} (RG:Al r G Gv gc gb go gcss) (rule:ByteArray) (most:Int) (h:Hp) (hrom:h.rom=r) (hb:h.base<=h.next) :
  ∃v h1,Snd Tryz.prog 3 [.agg #[.slice Gv G.length gc],.string rule,.int .i64 most] h v h1/\v=.bool true:=by
 refine aL wf Tryz.func3 rfl rfl (n:=71) rfl (by kernel_rfl) rfl ?_
 intro a hn hg
 have hr:Tryz.f3.results.toList=[.tmp 6]:=rfl
 have g0:=hg 0
 have g1:=hg 1
 have g2:=hg 2
 clear hg
 simp only[gC0,gC1] at g0 g1 g2
 have hG:=an hb 24 [.slice Gv G.length gc]
 have hx0:=Ext.new h (ak.cells ⟨[.slice Gv G.length gc],24,0,0,false⟩)
 simp -dsimp only[go_sem,g0,g1,g2,bu,af hG]
 generalize (h.newH (ak.cells ⟨[.slice Gv G.length gc],24,0,0,false⟩))=h2 at hG hx0 ⊢
 have hb2:h2.base<=h2.next:=by rw[hx0.base];exact lTr hb hx0.next
 have hrom2:h2.rom=r:=hx0.rom.trans hrom
 obtain ⟨_,h3,hs3,rfl,hx3⟩:=BW RG.hb RG.hA RG.hat RG.hk (c:=gc) (most:=60) (by decide) h2 hrom2 hb2
 have hs3':Snd Tryz.prog 5 [.agg #[.slice Gv G.length gc],.int .i64 60] h2 (.bool (gh 60 G)) h3:=hs3
 refine ⟨_,h3,hs3',?_⟩
 have hrom3:h3.rom=r:=hx3.rom.trans hrom2
 have hb3:h3.base<=h3.next:=by rw[hx3.base];exact lTr hb2 hx3.next
 have hG3:=aj hx3 hG
 cases hsm:gh 60 G with
 | false =>
   simp -dsimp only[go_sem,ai]
   refine ⟨_,_,jE h3,?_⟩
   simp -dsimp only[go_sem,hr]
 | true =>
   by_cases hln:200<rule.data.toList.length
   ·have k1:decide ((200:Int)<(rule.data.toList.length:Int))=true:=dcT (by omega)
    simp -dsimp only[go_sem,ai,g1,k1]
    refine ⟨_,_,jE h3,?_⟩
    simp -dsimp only[go_sem,hr]
   ·have k1:decide ((200:Int)<(rule.data.toList.length:Int))=false:=dcF (by omega)
    by_cases hmo:(6:Int)<most
    ·simp -dsimp only[go_sem,ai,g1,g2,k1,dcT hmo]
     refine ⟨_,_,jE h3,?_⟩
     simp -dsimp only[go_sem,hr]
    obtain ⟨hGl,hft,hfw⟩:=xL (by decide) hsm
    obtain ⟨hbig,hk4⟩:=xw (by decide) hsm
    have R:bd r G Gv gc gb go gcss:=⟨RG.hc,by omega,RG.hA,RG.hat,RG.hk,RG.hs⟩
    simp -dsimp only[go_sem,ai,g1,g2,k1,dcF hmo,af hG3]
    obtain ⟨v5,h5,hs5,hx5,hcase⟩:=uE (cap:=300) R hft rule most (by omega) (by decide) (by decide) h3 hrom3 hb3
    have hs5':Snd Tryz.prog 7 [.agg #[.slice Gv G.length gc],.string rule,.int .i64 most,.int .i64 300] h3 v5 h5:=hs5
    refine ⟨_,h5,hs5',?_⟩
    have hrom5:h5.rom=r:=hx5.rom.trans hrom3
    have hb5:h5.base<=h5.next:=by rw[hx5.base];exact lTr hb3 hx5.next
    have hG5:=aj hx5 hG3
    have hall:v5=.tuple #[.slice none 0 0,.int .i64 0,.bool false]\/∃(n:Nat) (made:List (List Tx)) (e:Int) (w0:Value) (ps0:Prs),v5=.tuple #[w0,.int .i64 e,.bool true]/\LK h5 (fun _=>False) (fun _=>False) w0 ps0/\PrK h5 (fun _=>False) (fun _=>False) ps0 /\
      (okM G rule->¬most<0->most=(n:Int)/\300<=900/\sL G n 300 made)/\ps0.length<=1000000/\(∀p∈ps0,p.2.length<=1000000)/\((¬okM G rule/\e=240/\ps0=[]/\w0=.slice none 0 0)\/(okM G rule/\e=0/\aK ps0=th G rule most made)):=by
     rcases hcase with ⟨no,rfl⟩|⟨ok,neg,rfl⟩|⟨ok,rfl⟩|⟨ok,n,made,L,w,hmn,fix,hL,hw,rfl⟩
     ·exact .inr ⟨0,[],240,_,[],rfl,.inl ⟨rfl,rfl⟩,fun p hp=>by simp at hp,fun c=>absurd c no,lZr _,fun p hp=>by simp at hp,.inl ⟨no,rfl,rfl,rfl⟩⟩
     ·exact .inr ⟨0,[],0,_,[],rfl,.inl ⟨rfl,rfl⟩,fun p hp=>by simp at hp,fun _ c=>absurd neg c,lZr _,fun p hp=>by simp at hp,.inr ⟨ok,rfl,by unfold th;rw[if_pos neg];rfl⟩⟩
     ·exact .inl rfl
     ·obtain ⟨ps0,q1,q2,q3⟩:=C8 hw
      have hm:=mOg hL
      have hfit:=fix.inv.fit L hm
      refine .inr ⟨n,made,0,w,ps0,rfl,q1,q2,fun _ _=>⟨hmn,by decide,fix⟩,?_,fun p hp => ?_,.inr ⟨ok,rfl,?_⟩⟩
      ·rw[<-cj,q3]
       have:=hfit.1
       omega
      ·have:=hfit.2 p.2 (by rw[<-q3];exact List.mem_map.2 ⟨p,hp,rfl⟩)
       omega
      ·rw[q3]
       unfold th
       rw[if_neg (by omega)]
       simp[List.getD,hL]
    rcases hall with rfl|⟨n,made,e,w0,ps0,rfl,K0,P0,hsay,hpl,hpt,hsame⟩
    ·simp -dsimp only[go_sem,ai]
     refine ⟨_,_,jE _,?_⟩
     simp -dsimp only[go_sem,hr]
    obtain ⟨A0,c0,rfl,hsp0⟩:=K0.shape
    simp -dsimp only[go_sem,ai,g1,g2,af hG5]
    obtain ⟨v7,h7,hs7,hx7,hc7⟩:=BH R hft hbig hk4 rule most (by omega) n 300 made hsay h5 hrom5 hb5
    refine ⟨_,h7,hs7,?_⟩
    have hb7:h7.base<=h7.next:=by rw[hx7.base];exact lTr hb5 hx7.next
    have kE:=(bT hx7).wide (B':=fun _=>False) (F':=fun _=>False) (fun _ _ c=>c.elim) (fun _ c=>c.elim)
    have K7:=K0.keep kE
    have P7:=P0.keep kE
    rcases hc7 with ⟨no,rfl⟩|⟨ok,w,rfl,ps,K,P,hps⟩
    ·rcases hsame with ⟨_,rfl,rfl,e0⟩|⟨ok,_⟩
     rotate_left
     ·exact absurd ok no
     have e0':=e0
     injection e0' with q1 q2 q3
     subst q1 q3
     simp -dsimp only[go_sem,ai,decide_true,Bool.not_true,List.length_nil]
     refine vT (ps:=[]) (qs:=[]) hb7 (.inl ⟨rfl,rfl⟩) (fun p hp=>by simp at hp) (.inl ⟨rfl,rfl⟩) (fun p hp=>by simp at hp) rfl (fun p hp=>by simp at hp) (by simp) (by simp -dsimp only[go_sem,hn]) (by simp -dsimp only[go_sem]) (by simp -dsimp only[go_sem]) (by simp -dsimp only[go_sem]) (by simp -dsimp only[go_sem]) (fun a1 hn1 => ?_)
     simp -dsimp only[go_sem]
     refine ⟨_,_,jE h7,?_⟩
     simp -dsimp only[go_sem,hr]
    ·rcases hsame with ⟨no,_⟩|⟨_,rfl,hs0⟩
     ·exact absurd ok no
     obtain ⟨A1,c1,rfl,hsp1⟩:=K.shape
     have hss:aK ps=aK ps0:=hps.trans hs0.symm
     have hll:ps.length=ps0.length:=by rw[<-cj ps,hss,cj]
     have hz:decide ((ps.length:Int)=(ps0.length:Int))=true:=dcT (by omega)
     simp -dsimp only[go_sem,ai,decide_true,Bool.not_true,hz]
     refine vT (ps:=ps) (qs:=ps0) hb7 K P K7 P7 hss (fun p hp => ?_) (by omega) (by simp -dsimp only[go_sem,hn]) (by simp -dsimp only[go_sem]) (by simp -dsimp only[go_sem]) (by simp -dsimp only[go_sem]) (by simp -dsimp only[go_sem]) (fun a1 hn1 => ?_)
     ·have:p.2∈aK ps0:=by rw[<-hss];exact List.mem_map.2 ⟨p,hp,rfl⟩
      obtain ⟨q,hq,e⟩:=List.mem_map.1 this
      rw[<-e]
      exact hpt q hq
     simp -dsimp only[go_sem]
     refine ⟨_,_,jE h7,?_⟩
     simp -dsimp only[go_sem,hr]
end
end Go.Ev.Z24
end
section
namespace Go.Proofs.YtcnllhnhinmokaaGreat.makesAll
open Go.ChangeShapes Go.WideShapes Go.ChangeAt Go.RowKit Go.Ev Go.Ev.Z24
open Go.ChangeMaps (open_string shut_string)
theorem own:ownKnob Tryz.prog.godebug=none:=by kernel_rfl
theorem laidOut:laidOutB Tryz.prog=true:=by kernel_rfl
theorem lifted (os:Os) (started:os.Started) (H:Type) (enc:TypeId×Value->H) :
  ReturnsInHanded {} Tryz.checked os 3 .any (Rows.makesAllSpec.pre6 enc Tryz.prog Tryz.f3 Rows.makesAllRow.domain false) (Rows.makesAllSpec.post enc Tryz.prog Tryz.f3 false true false false):=by
 refine returnsInHanded_of_change_sized (C:=Tryz.checked) own started (by kernel_rfl) Tryz.func3
  (ChangeSpec.witness6 (enc:=enc) (C:=Tryz.checked) false ⟨#[],#[.agg #[.slice none 0 0],.string ⟨#[]⟩,.int .i64 0],[]⟩ 8 (by kernel_rfl) (by kernel_rfl) (by kernel_rfl) (by kernel_rfl)) ?_
 intro W base args ds gs before hval0 hW hcnd hsz0 _
 have hval:∀(j:Nat) t v,Tryz.f3.params[j]? = some t->args[j]? = some v->Value.okWide Tryz.prog W .any base t v:=hval0
 have hW':=hW
 obtain ⟨p,q,hA0,hV,rfl,hfz,hnd⟩:=hW
 have hA:DataW.TrodAll enc Tryz.prog W 0 (fun _=>true) true Tryz.f3.params.toList args.toList ds p:=hA0
 rw[Tryz.params3] at hA hval
 obtain ⟨v0,vs0,d0,ds0,p0,q0,hargs,rfl,rfl,h0,r0⟩:=trodAll_cons hA
 obtain ⟨v1,vs1,d1,ds1,p1,q1,rfl,rfl,rfl,h1,r1⟩:=trodAll_cons r0
 obtain ⟨v2,vs2,d2,ds2,p2,q2,rfl,rfl,rfl,h2,r2⟩:=trodAll_cons r1
 obtain ⟨rfl,rfl,rfl⟩:=trodAll_nil r2
 obtain rfl:args=#[v0,v1,v2]:=by cases args;simp_all
 obtain ⟨rfl,rfl⟩:=trodVars_none hV
 have k0:=h0
 have k1:=h1
 have k2:=h2
 have lt0:∀x∈p0,x.block<W.heap.size:=by
  obtain ⟨m,hm⟩:=k0
  exact DataW.trod_lt m _ _ _ hm
 have lt1:∀x∈p1,x.block<W.heap.size:=by
  obtain ⟨m,hm⟩:=k1
  exact DataW.trod_lt m _ _ _ hm
 have lt2:∀x∈p2,x.block<W.heap.size:=by
  obtain ⟨m,hm⟩:=k2
  exact DataW.trod_lt m _ _ _ hm
 obtain ⟨cs,rfl,hcs⟩:=okWide_struct Tryz.underlying24 (hval 0 24 v0 rfl rfl)
 obtain ⟨fuel0,hf0⟩:=h0
 obtain ⟨A0,c0,g,hcells0,ok0,b0,o0,css0,RG⟩:=rm fuel0 _ _ hf0
 have hagg:cs=#[.slice A0 g.length c0]:=by
  apply Array.ext'
  simpa[Value.cells] using hcells0
 subst hagg
 have pos0:∀a,A0=some a->0<W.heap.size:=fun a e=>by
  subst e
  exact yP (hval 0 24 _ rfl rfl)
 obtain ⟨fuel1,hf1⟩:=h1
 obtain ⟨s1,hcells1,_,_⟩:=DataW.trod_string Tryz.underlying9 hf1
 have hv1:v1=.string s1:=by
  obtain ⟨s,rfl⟩:=okWide_string Tryz.underlying9 (hval 1 9 v1 rfl rfl)
  simpa[Value.cells] using hcells1
 subst hv1
 obtain ⟨n2,rfl⟩:=okWide_int Tryz.underlying3 (hval 2 3 v2 rfl rfl)
 obtain ⟨_,hh,hs,rfl⟩:=C9 RG s1 n2 (gT W) rfl (lRf _)
 clear hA0 hval0 hsz0
 refine (Ad hs (args':=[.agg #[.slice A0 g.length c0],.string s1,.int .i64 n2]) (.cons (.agg (.cons (CW ok0 pos0) .nil)) (.cons (.string _) (.cons (.int _ _) .nil)))).mono fun e W' ⟨he,bel⟩ => ?_
 subst he
 exact ⟨_,rfl,_,_,_,[],_,[],hW',trodAll_mk1 (shut_bool Tryz.underlying4 _),(trodAll_cons_mk (Below.trod laidOut (by kernel_rfl) (dcO (by kernel_rfl)) k0 bel lt0) (trodAll_cons_mk (Below.trod laidOut (by kernel_rfl) (dcO (by kernel_rfl)) k1 bel lt1) (trodAll_cons_mk (Below.trod laidOut (by kernel_rfl) (dcO (by kernel_rfl)) k2 bel lt2) trodAll_mk0))),rfl,bel.frame _,fun h=>by cases h⟩
theorem over:Rows.makesAllRow.holds Tryz.pinned (OpenSpec.ofChange Rows.makesAllSpec) :=
 OpenClaim.holds_of_wide 3 Tryz.f3 rfl rfl rfl rfl rfl rfl rfl ⟨rfl,rfl,rfl,rfl,rfl⟩ rfl rfl rfl rfl rfl (by kernel_rfl) Tryz.func3 (by kernel_rfl)
  (dcO (by kernel_rfl)) (by unfold Func.isWrapper;first|(rw[if_pos (by decide +kernel)];kernel_rfl)|(rw[if_neg (by decide +kernel)];exact ⟨rfl,rfl⟩))
  (fun os started H enc _=>lifted os started H enc)
theorem proved:Rows.MakesAllSaid:=over
#print axioms proved
end Go.Proofs.YtcnllhnhinmokaaGreat.makesAll
namespace Go.Proofs.YtcnllhnhinmokaaGreat
theorem makesAll_holds:Rows.MakesAllSaid:=makesAll.proved
end Go.Proofs.YtcnllhnhinmokaaGreat
end
