/- For every grammar, rule and items, the tree of Parse is one of the ways, if there is no not, and its items are the items (no condition on the arguments): part 4 of 5. -/
import Derived.Test.YtcnllhnhinmokaaPA2
set_option linter.unusedVariables false
set_option linter.unusedSimpArgs false
section
namespace Go.Ev.G24
open Go.RowKit Go.Proofs
variable {r:Ro} {G:List Rule} {items:List ByteArray} {Gv Iv:Option Addr} {gc ic xb mm bk m eb:Nat} {em:List Bool} {B F:Nat→Prop}
theorem Mine.keepC {C:Nat→Prop} {h h1:Hp} {n0 f0:Nat} {l:List Part} {v:Value} (x:Keeps C (fun _=>False) h h1) (hC:∀b,C b→B b∧b<n0) (M:Mine h n0 f0 B F l v):Mine h1 n0 f0 B F l v:=by
 rcases M with ⟨rfl,rfl⟩|⟨b,f,row,css,hl,rfl,hr,hrl,hb0,hf,hat,hk⟩
 ·exact .inl ⟨rfl,rfl⟩
 ·refine .inr ⟨b,f,row,css,hl,rfl,x.rows _ _ _ hr (fun c => ?_) (fun c=>c),hrl,hb0,hf,hat,fun i p hp=>(hk i p hp).keep (x.mono (fun b _ c=>.inl (hC b c).1) (fun _ _ _ c=>c.elim) (fun c=>c))⟩
  have:=(hC b c).2
  omega
theorem Mine.ownF_sameC {C:Nat→Prop} {h h1:Hp} {n0 f0:Nat} {l:List Part} {v:Value} (M:Mine h n0 f0 B F l v) (x:Keeps C (fun _=>False) h h1) (hC:∀b,C b→b<n0) {q:Nat} (hq:ownF h1 v q):ownF h v q:=by
 rcases M with ⟨rfl,rfl⟩|⟨b,f,row,css,hl,rfl,hr,hrl,hb0,hf,hat,hk⟩
 ·exact hq.elim
 ·exact (ownF_eq hr q).2 ((ownF_eq (x.rows _ _ _ hr (fun c=>by have:=hC b c;omega) (fun c=>c)) q).1 hq)
set_option maxHeartbeats 8000000 in
set_option maxRecDepth 10000 in
theorem take_many {k:Nat} {d t:ByteArray} {x:Part} {c b o pb zb tb:Nat} {cx:List Value} (ih:TakeC r G items Gv Iv gc ic xb mm bk m eb em k x)
  (hat0:roAt r b o cx) (hk0:RoPart r x cx)
  {h:Hp} {far q:Nat} {memo:Memo} (hrom:h.rom=r) (hb:h.base≤h.next) (hBnd:Bnd h B F) (hX:h.own xb 128 (runRow bk Iv items.length ic mm far)) (hM:MemoOk G items h B F far mm memo) (hBk:Book h bk m eb (.slice Gv G.length gc) (nms G) em) (hmne:m≠mm) (hfar:far≤items.length) (hq:q≤items.length) {o9:Outc} (hrun:run G items k (.many x q [])=some o9) (ho9:o9.2.1≤50000)
  {a:Ev.A} {h2:Hp} {Q:Ex→Ev.A→Hp→Prop} (hn:a.n=189) (hx:Ext h h2) {zc:List Value} (hzl:zc.length=3) (hP:h2.own pb 52 [.string d,.string t,.slice (some ⟨b,o,none⟩) 1 c]) (hZ:h2.own zb 75 zc) (hT:h2.own tb 31 [.string ⟨#[109,97,110,121]⟩,.string ⟨#[]⟩,.slice none 0 0]) (hpn:h.next≤pb) (hzn:h.next≤zb) (htn:h.next≤tb)
  (g0:a.get 0=.pointer (some ⟨xb,0,none⟩)) (g2:a.get 2=.int .i64 (q:Int)) (g4:a.get 4=.pointer (some ⟨pb,0,none⟩)) (g6:a.get 6=.pointer (some ⟨zb,0,none⟩)) (g17:a.get 17=.pointer (some ⟨tb,0,none⟩))
  (hq1:∀a1 h1 x y z,TakeP G items B F bk Iv ic mm xb o9 far h (.agg #[x,y,z]) h1→h1.own zb 75 [x,y,z]→a1.get 6=.pointer (some ⟨zb,0,none⟩)→Q .ret a1 h1) :
  Th Try.prog (bodyAt Try.f70 [1,0,1,0,1,1,1,1,1,1,1,1,1,1,1,0,1,0]) a h2 Q ⟨⟩ ⟨⟩:=by
 have hxm:∀{h':Hp},ExtS (Two xb mm) h h'→Book h' bk m eb (.slice Gv G.length gc) (nms G) em:=fun x=>hBk.two ⟨_,hX⟩ hM.at'.map hmne x
 have hxbn:xb<h.next:=hX.2.1
 have hmmn:mm<h.next:=hM.at'.1
 have hn02:h.next≤h2.next:=hx.next
 have hf02:h.nfam≤h2.nfam:=hx.nfam
 have htb2:tb<h2.next:=hT.2.1
 have hX2:=own_ext hx hX
 have hM2:MemoOk G items h2 (fun y=>B y∨y=tb) F far mm memo:=(hM.more (B':=fun y=>B y∨y=tb) (F':=F) (fun b hb c=>c.elim id (fun c=>by omega)) (fun f c=>.inl c)).extS (S:=fun _=>False) hx.toS (fun _ _ _ _ c=>c) (fun c=>c) (Nat.le_refl _)
 have hix:indexAddr' Try.prog 50 (.slice (some ⟨b,o,none⟩) 1 c) (.int .i64 0)=some (.pointer (some ⟨b,o,none⟩)):=by
  have:=ia50 (b:=b) (o:=o) (c:=c) (n:=1) (i:=0) (by decide)
  simpa using this
 obtain ⟨Av1,c1',hcs⟩:=hk0.shape
 have hat':=hat0
 have hkid:=hk0
 rw [hcs] at hat' hkid
 have hpt:pb≠tb:=by
  intro e;have:=hP.2.2;rw [e,hT.2.2] at this;simp at this
 have hzt:zb≠tb:=by
  intro e;have:=hZ.2.2;rw [e,hT.2.2] at this;simp at this
 simp only [bodyAt,nav,Try.f70]
 refine loop_go (n:=189) (by kernel_rfl) (fun m' a' h'=>∃(q' fc:Nat) (acc:List Part) (v:Value) (memo':Memo) (o':Outc),m'≤k∧ExtS (Two xb mm) h h'∧h2.next≤h'.next∧h2.nfam≤h'.nfam∧h'.own xb 128 (runRow bk Iv items.length ic mm fc)∧fc≤items.length∧q'≤items.length ∧
  h'.own pb 52 [.string d,.string t,.slice (some ⟨b,o,none⟩) 1 c]∧h'.own zb 75 zc∧h'.own tb 31 [.string ⟨#[109,97,110,121]⟩,.string ⟨#[]⟩,v]∧Mine h' h2.next h2.nfam (fun y=>B y∨y=tb) F acc v∧MemoOk G items h' (fun x=>(B x∨x=tb)∨ownB v x) (fun q=>F q∨ownF h' v q) fc mm memo' ∧
  run G items m' (.many x q' acc)=some o'∧o'.1=o9.1∧max fc o'.2.2=max far o9.2.2∧acc.length+o'.2.1≤o9.2.1 ∧
  a'.get 0=.pointer (some ⟨xb,0,none⟩)∧a'.get 2=.int .i64 (q':Int)∧a'.get 4=.pointer (some ⟨pb,0,none⟩)∧a'.get 6=.pointer (some ⟨zb,0,none⟩)∧a'.get 17=.pointer (some ⟨tb,0,none⟩)) ?_ k _ _ hn ⟨q,far,[],_,memo,o9,Nat.le_refl _,hx.toS,Nat.le_refl _,Nat.le_refl _,hX2,hfar,hq,hP,hZ,hT,.inl ⟨rfl,rfl⟩,hM2.more (fun b _ c=>c.elim id (fun c=>c.elim)) (fun f c=>.inl (c.elim id (fun c=>c.elim))),hrun,rfl,rfl,by simp,g0,g2,g4,g6,g17⟩
 rintro m' a' h' hn' ⟨q',fc,acc,v,memo',o',hkk,hxh,hn2,hf2,hX',hfc,hq',hP',hZ',hO',hMi,hMe,hrk,ho1,ho2,ho3,e0,e2,e4,e6,e17⟩
 have hrom':h'.rom=r:=ext_rom hxh hrom
 have hb':h'.base≤h'.next:=ext_bn hxh hb
 obtain ⟨kk',r4,n4,f4,hkk',hr4,hmt⟩:=many_inv hrk
 have hBv:Bnd h' (fun x=>(B x∨x=tb)∨ownB v x) (fun q=>F q∨ownF h' v q):=⟨fun x c=>by
  have:=hxh.next
  rcases c with (c|c)|c
  ·have:=hBnd.b x c;omega
  ·omega
  ·have:=hMi.lt c;omega,fun q c=>by
  have:=hxh.nfam
  rcases c with c|c
  ·have:=hBnd.f q c;exact ⟨this.1,by omega⟩
  ·have:=hMi.flt c;exact ⟨this.1,by omega⟩⟩
 have hn4:n4≤50000:=by
  cases r4 with
  | none=>rw [show o'=(some ([manyT acc],q'),n4,f4) from hmt] at ho3;simp at ho3;omega
  | some y =>
    obtain ⟨ks,e⟩:=y
    obtain ⟨o'',_,e2⟩:=hmt
    rw [e2] at ho3
    simp only [joinO] at ho3
    omega
 obtain ⟨v4,h4,hs4,memo4,hx4,hX4,hM4,hV4⟩:=ih _ _ fc q' h' _ memo' _ hBv hfc hq' hrom' hb' hX' hMe (hxm hxh) hkid (run_le (by omega:kk'≤k) _ _ hr4) hn4
 simp -dsimp only [go_sem,e0,e2,e4,e6,e17,load_own hP',hix,loads_ro (n:=3) hrom' hat' rfl]
 refine ⟨_,h4,hs4,?_⟩
 have hx04:=hxh.trans hx4
 have hfair:=run_fair _ _ _ (show placeT (.part x q')≤items.length from hq') hr4
 have hP4:=own_extS hx4 hP' (by rintro (c|c)<;>omega)
 have hZ4:=own_extS hx4 hZ' (by rintro (c|c)<;>omega)
 have hO4:=own_extS hx4 hO' (by rintro (c|c)<;>omega)
 have hb4:h4.base≤h4.next:=ext_bn hx04 hb
 have hn24:h2.next≤h4.next:=by have:=hx4.next;omega
 have hf24:h2.nfam≤h4.nfam:=by have:=hx4.nfam;omega
 obtain ⟨esv,nv,hmv⟩:=hMe.at'.map
 have kv4:Keeps (fun _=>False) (fun _=>False) h' h4:=keepsN hx4 (noRow_two hX' (by decide) hmv)
 cases r4 with
 | none =>
   have hmt:o'=(some ([manyT acc],q'),n4,f4):=hmt
   have hV4:v4=.agg #[.bool false,.int .i64 0,.slice none 0 0]:=hV4
   subst hV4
   obtain ⟨wS,wO,wX,wB,wR⟩:=var_ok hb4 (e:=75) (c0:=[.bool false,.int .i64 0,.slice none 0 0]) (c1:=[.bool false,.int .i64 0,.slice none 0 0]) rfl rfl (by simp)
   obtain ⟨A9,n9,c9,rfl,hsp9⟩:=hMi.slice
   simp -dsimp only [go_sem,wS,load_own wO]
   generalize h4.var 75 [.bool false,.int .i64 0,.slice none 0 0] [.bool false,.int .i64 0,.slice none 0 0]=hw at wS wO wX wB wR ⊢
   have hOw:=own_ext wX hO4
   have hrow:=own_new wB 31 [.string ⟨#[109,97,110,121]⟩,.string ⟨#[]⟩,.slice A9 n9 c9]
   have hxr:=wX.trans (Ext.new hw (CObj.cells ⟨[.string ⟨#[109,97,110,121]⟩,.string ⟨#[]⟩,.slice A9 n9 c9],31,0,0,false⟩))
   have hZ5:=own_ext hxr hZ4
   have hzs:=stores_own hZ5 (o:=0) (vs:=[.bool true,.int .i64 (q':Int),.slice (some ⟨hw.next,0,none⟩) 1 1]) (c1:=[.bool true,.int .i64 (q':Int),.slice (some ⟨hw.next,0,none⟩) 1 1]) rfl (by
    match zc,hzl with
    | [x,y,z],_=>rfl) (by simp)
   simp -dsimp only [go_sem,e2,e6,e17,loads_own hOw,bs29 1 (by decide),repeatN,hzs]
   have hTP:TakeP G items B F bk Iv ic mm xb o9 far h (.agg #[.bool true,.int .i64 (q':Int),.slice (some ⟨hw.next,0,none⟩) 1 1]) (hw.newH (CObj.cells ⟨[.string ⟨#[109,97,110,121]⟩,.string ⟨#[]⟩,.slice A9 n9 c9],31,0,0,false⟩)):=by
    refine ⟨memo4,hx04.trans hxr.toS,?_,?_,?_⟩
    ·rw [←ho2,hmt];exact own_ext hxr hX4
    ·rw [←ho2,hmt]
     exact (hM4.extS (S:=fun _=>False) hxr.toS (fun _ _ _ _ c=>c) (fun c=>c) (Nat.le_refl _)).more (fun b _ c=>.inl (.inl c)) (fun f c=>.inl (.inl c))
    ·rw [←ho1,hmt]
     refine ⟨_,rfl,kids_new hrow (fun c => ?_) (fun c=>(hBnd.f 0 c).1 rfl) ?_⟩
     ·have:=hBnd.b _ c
      have:=wX.next
      omega
     ·have hk:=((hMi.kidsAt (fun b c=>by
       rcases c with c|c
       ·exact Nat.lt_of_lt_of_le (hBnd.b b c) hn02
       ·omega) (fun f c=>⟨(hBnd.f f c).1,Nat.lt_of_lt_of_le (hBnd.f f c).2 hf02⟩)).keep kv4.any).keep (keepsE hxr).any
      exact hk.more (fun b _ c=>.inl c) (fun f c=>.inl c)
   exact hq1 _ _ _ _ _ (hTP.put hzn hZ5 (by decide) hxbn hmmn) (own_put_same hZ5 _) (by simp -dsimp only [go_sem,e6])
 | some y =>
   obtain ⟨ks,e⟩:=y
   obtain ⟨o'',hrun'',ho''⟩:=hmt
   obtain ⟨kv,rfl,hkv⟩:=hV4
   obtain ⟨A9,c9,hkve,hsp9⟩:=hkv.slice
   obtain ⟨hfn,hen,hfk⟩:=hfair
   simp only [accT,List.length_nil,Nat.zero_add] at hfk hen hfn
   obtain ⟨hkl,_⟩:=hfk (by omega) (fun p hp=>by simp at hp)
   have hkl:ks.length≤n4:=hkl
   obtain ⟨wS,wO,wX,wB,wR⟩:=var_ok hb4 (e:=75) (c0:=[.bool false,.int .i64 0,.slice none 0 0]) (c1:=[.bool true,.int .i64 (e:Int),kv]) rfl (by rw [hkve];rfl) (by simp)
   simp -dsimp only [go_sem,wS,load_own wO]
   have hkp:=kv4.trans (keepsE wX)
   have hXp:=own_ext wX hX4
   have hPp:=own_ext wX hP4
   have hZp:=own_ext wX hZ4
   have hOp:=own_ext wX hO4
   have hMp:MemoOk G items (h4.var 75 [.bool false,.int .i64 0,.slice none 0 0] [.bool true,.int .i64 (e:Int),kv]) (fun x=>(B x∨x=tb)∨ownB v x) (fun q=>F q∨ownF h' v q) (max fc f4) mm memo4:=hM4.extS (S:=fun _=>False) wX.toS (fun _ _ _ _ c=>c) (fun c=>c) (Nat.le_refl _)
   have hKp:=hkv.keep (keepsE wX).any
   have hMip:=hMi.keepK hkp
   have hxp:ExtS (Two xb mm) h (h4.var 75 [.bool false,.int .i64 0,.slice none 0 0] [.bool true,.int .i64 (e:Int),kv]):=hx04.trans wX.toS
   have hn2p:h2.next≤(h4.var 75 [.bool false,.int .i64 0,.slice none 0 0] [.bool true,.int .i64 (e:Int),kv]).next:=Nat.le_trans hn24 wX.next
   have hf2p:h2.nfam≤(h4.var 75 [.bool false,.int .i64 0,.slice none 0 0] [.bool true,.int .i64 (e:Int),kv]).nfam:=Nat.le_trans hf24 wX.nfam
   generalize h4.var 75 [.bool false,.int .i64 0,.slice none 0 0] [.bool true,.int .i64 (e:Int),kv]=h5 at wS wO wX wB wR hMip hXp hPp hZp hOp hMp hKp hkp hxp hn2p hf2p ⊢
   have hK5:KidsAt h5 (fun x=>(B x∨x=tb)∨ownB v x) (fun q=>F q∨ownF h5 v q) ks kv:=hKp.more (fun b _ c=>c) (fun f c=>.inl (c.elim .inl (fun c=>.inr (hMi.ownF_sameK hkp c))))
   have hM5:MemoOk G items h5 (fun x=>(B x∨x=tb)∨ownB v x) (fun q=>F q∨ownF h5 v q) (max fc f4) mm memo4:=hMp.more (fun b _ c=>c) (fun f c=>.inl (c.elim .inl (fun c=>.inr (hMi.ownF_sameK hkp c))))
   have hsz:acc.length+ks.length≤1000000:=by
    rw [ho''] at ho3
    simp only [joinO] at ho3
    omega
   obtain ⟨v',h6,ha6,hM6,hext6,hkp6,hvB,hvF⟩:=mine_append hMip hK5 wB hn2p hf2p hsz (fun x c=>by
    rcases c with c|c
    ·exact Nat.lt_of_lt_of_le (hBnd.b x c) hxp.next
    ·omega) (fun q c=>Nat.lt_of_lt_of_le (hBnd.f q c).2 hxp.nfam)
   have hx6:=hext6 (Two xb mm) h hxp hn02 hf02
   obtain ⟨hob6,_⟩:=below_same hext6 hn2p hf2p
   have lt2:∀{y:Nat} {e:TypeId} {c:List Value},h2.own y e c→y<h2.next:=fun k=>k.2.1
   have hbase6:h6.base=h5.base:=hx6.base.trans hxp.base.symm
   have hX6:=own_same hXp (hob6 xb (by omega)) hbase6 hkp6.next
   have hP6:=own_same hPp (hob6 pb (lt2 hP)) hbase6 hkp6.next
   have hZ6:=own_same hZp (hob6 zb (lt2 hZ)) hbase6 hkp6.next
   have hO6:=own_same hOp (hob6 tb (lt2 hT)) hbase6 hkp6.next
   have hMe6:=memo_append hM5 hMip hM6 hkp6 hvB hvF (hob6 mm (by omega))
   obtain ⟨A7,n7,c7,rfl,hsp7⟩:=hM6.slice
   have hos2:=stores_own hO6 (o:=2) (vs:=[.slice A7 n7 c7]) (c1:=[.string ⟨#[109,97,110,121]⟩,.string ⟨#[]⟩,.slice A7 n7 c7]) rfl rfl (by simp)
   have hO7:=own_put_same hO6 [.string ⟨#[109,97,110,121]⟩,.string ⟨#[]⟩,.slice A7 n7 c7]
   have hpo7:ExtS (Only tb) h6 (h6.put tb (.cells ⟨[.string ⟨#[109,97,110,121]⟩,.string ⟨#[]⟩,.slice A7 n7 c7],31,0,0,false⟩)):=((Ext.refl h6).toS (S:=Only tb)).put (b:=tb) (.inr rfl) _
   have hpN7:=keepsS hpo7
   simp -dsimp only [go_sem,load_own hOp,load_own wO,e0,e2,e4,e6,e17,builtin',ha6,hos2]
   refine ⟨kk',by omega,e,max fc f4,acc++ks,.slice A7 n7 c7,memo4,o'',by omega,hx6.put (.inl htn) _,Nat.le_trans hn2p hkp6.next,Nat.le_trans hf2p hkp6.nfam,own_extS hpo7 hX6 (by show xb≠tb;omega),Nat.max_le.2 ⟨hfc,hfn⟩,hen,own_extS hpo7 hP6 hpt,own_extS hpo7 hZ6 hzt,hO7,hM6.keepC hpN7 (fun b c=>⟨.inr c,by have c':b=tb:=c;omega⟩),?_,hrun'',?_,?_,?_,rfl⟩
   ·refine ⟨hMe6.at'.extS hpo7 (by show mm≠tb;omega),fun e he => ?_⟩
    have g:=(hMe6.good e he).keep (far':=max fc f4) (hpN7.mono (B':=fun x=>(B x∨x=tb)∨ownB (.slice A7 n7 c7) x) (F':=fun q=>F q∨ownF h6 (.slice A7 n7 c7) q) (fun b _ c=>.inl (.inr c)) (fun _ _ _ c=>c.elim) (fun c=>c)) (Nat.le_refl _)
    exact g.more (fun b _ c=>c) (fun f c=>.inl (c.elim .inl (fun c=>.inr (hM6.ownF_sameC hpN7 (fun b c=>by have c':b=tb:=c;omega) c))))
   ·rw [←ho1,ho''];rfl
   ·rw [←ho2,ho''];simp only [joinO,Nat.max_assoc]
   ·rw [ho''] at ho3
    simp only [joinO] at ho3
    rw [List.length_append]
    omega
end Go.Ev.G24
end
section
namespace Go.Ev.G24
open Go.RowKit Go.Proofs
variable {r:Ro} {G:List Rule} {items:List ByteArray} {Gv Iv:Option Addr} {gc ic xb mm bk m eb:Nat} {em:List Bool} {B F:Nat→Prop}
theorem idxOf_name {l:List ByteArray} {s x:ByteArray} (h:l[idxOf l s]? = some x):x=s:=by
 have hi:=get_lt' h
 unfold idxOf at h hi
 have:=List.findIdx_getElem (w:=hi)
 rw [List.getElem?_eq_getElem hi] at h
 injection h with h
 rw [h] at this
 have h2:x.data.toList=s.data.toList:=of_decide_eq_true this
 cases x;cases s
 congr 1
 exact Array.toList_inj.1 h2
theorem OutV.shape {h:Hp} {o:Option (List Part×Nat)} {v:Value} (k:OutV h B F o v):∃e A n c,v=.agg #[.bool o.isSome,.int .i64 e,.slice A n c]∧spotless A=true:=by
 cases o with
 | none=>exact ⟨_,_,_,_,k,rfl⟩
 | some w =>
   obtain ⟨kv,e5,e6⟩:=k
   obtain ⟨A9,c9,e7,e8⟩:=e6.slice
   exact ⟨_,_,_,_,by rw [e5,e7];rfl,e8⟩
theorem Wc_at {P:Program} {c c':Code} {a:Ev.A} {h:Hp} {Q:Ex→Ev.A→Hp→Prop} (e:c=c') (k:Wc P c' a h Q ⟨⟩ ⟨⟩):Wc P c a h Q ⟨⟩ ⟨⟩:=by subst e;exact k
theorem bookAt {h:Hp} {Gx:Value} {names:List ByteArray} (k:Book h bk m eb Gx names em):MapAt h m names:=k.map
set_option maxHeartbeats 16000000 in
set_option maxRecDepth 10000 in
theorem take_rule {gb go ib io:Nat} {gcss:Nat→List Value} (R:RoRules r G Gv gc gb go gcss) (RI:RoItems r items Iv ic ib io)
  {k:Nat} {t:ByteArray} {y:Rule} (hgi:G[idxOf (nms G) t]? = some y) (ih:TakeC r G items Gv Iv gc ic xb mm bk m eb em k y.body) {h:Hp} {far q:Nat} {memo:Memo} (hrom:h.rom=r) (hb:h.base≤h.next) (hBnd:Bnd h B F) (hX:h.own xb 128 (runRow bk Iv items.length ic mm far)) (hM:MemoOk G items h B F far mm memo) (hBk:Book h bk m eb (.slice Gv G.length gc) (nms G) em) (hmne:m≠mm) (hfar:far≤items.length) (hq:q≤items.length)
  {o9:Outc} (hrun:run G items k (.part y.body q)=some o9) (ho9:o9.2.1≤50000)
  {a:Ev.A} {h2:Hp} {Q:Ex→Ev.A→Hp→Prop} (hn:a.n=189) (hx:Ext h h2) {d:ByteArray} {kv0:Value} {pb zb:Nat} {zc:List Value} (hzl:zc.length=3) (hP:h2.own pb 52 [.string d,.string t,kv0]) (hZ:h2.own zb 75 zc) (hpn:h.next≤pb) (hzn:h.next≤zb)
  (g0:a.get 0=.pointer (some ⟨xb,0,none⟩)) (g2:a.get 2=.int .i64 (q:Int)) (g4:a.get 4=.pointer (some ⟨pb,0,none⟩)) (g6:a.get 6=.pointer (some ⟨zb,0,none⟩))
  (hq1:∀a1 h1 x y z,TakeP G items B F bk Iv ic mm xb (ruleO t o9) far h (.agg #[x,y,z]) h1→h1.own zb 75 [x,y,z]→a1.get 6=.pointer (some ⟨zb,0,none⟩)→Q .ret a1 h1) :
  Wc Try.prog (bodyAt Try.f70 [1,0,1,0,1,1,1,1,1,0]) a h2 Q ⟨⟩ ⟨⟩:=by
 have hxm:∀{h':Hp},ExtS (Two xb mm) h h'→Book h' bk m eb (.slice Gv G.length gc) (nms G) em:=fun x=>hBk.two ⟨_,hX⟩ hM.at'.map hmne x
 have hxbn:xb<h.next:=hX.2.1
 have hmmn:mm<h.next:=hM.at'.1
 have hidx:=get_lt' hgi
 have hGl:(nms G).length=G.length:=by simp [nms]
 have hname:y.name=t:=idxOf_name (l:=nms G) (by unfold nms at hgi ⊢;rw [List.getElem?_map,hgi];rfl)
 obtain ⟨Av1,c1',hcs⟩:=(R.hk _ _ hgi).shape
 have hat':=R.hat _ _ hgi
 have hkid:=R.hk _ _ hgi
 rw [hcs] at hat' hkid
 have hat2:=roAt_tail hat'
 have hGv:=R.hA (ne_nil hidx)
 subst hGv
 have hfair:=run_fair _ _ _ (show placeT (.part y.body q)≤items.length from hq) hrun
 have hX2:=own_ext hx hX
 unfold runRow at hX2
 have hB2:=hBk.ext hx
 have hb2:h2.base≤h2.next:=by rw [hx.base];exact Nat.le_trans hb hx.next
 have hK2:=Ext.new h2 (CObj.cells ⟨[.int .i64 0,.int .i64 0],145,0,0,false⟩)
 obtain ⟨vS,vO,vX,vB,vR⟩:=var_ok hb2 (e:=145) (c0:=[.int .i64 0,.int .i64 0]) (c1:=[.int .i64 ((idxOf (nms G) t:Nat):Int),.int .i64 (q:Int)]) rfl rfl (by simp)
 refine Wc_at (by conv=>lhs;whnf) ?_
 simp -dsimp only [go_sem]
 refine Dw_text (n:=189) [[],[0],[0,1],[0,1,2],[0,1,2,3],[0,1,2,3,4],[0,1,2,3,4,5],[],[7],[0,1,2,3,4,5,6,7,8],[],[0,1,2,3,4,5,6,7,8,9,10],[],[0,1,2,3,4,5,6,7,8,9,10,11,12]] (by simp -dsimp only [go_sem,hn]) (by kernel_rfl) ?_
 simp -dsimp only [go_sem,g0,g2,g4,load_own hX2,load_own (own_ext hK2 hX2),load_own hB2.own,load_own (hB2.ext hK2).own,load_own hP,load_own (own_ext hK2 hP),(bookAt hB2).hit (by rw [hGl];exact hidx),(bookAt (hB2.ext hK2)).hit (by rw [hGl];exact hidx),vS]
 generalize h2.var 145 [.int .i64 0,.int .i64 0] [.int .i64 ((idxOf (nms G) t:Nat):Int),.int .i64 (q:Int)]=h3 at vS vO vX vB vR ⊢
 have hx3:=hx.trans vX
 have hX3:=own_ext vX hX2
 have hM3:MemoOk G items h3 B F far mm memo:=hM.extS (S:=fun _=>False) hx3.toS (fun _ _ _ _ c=>c) (fun c=>c) (Nat.le_refl _)
 have hK3:=Ext.new h3 (CObj.cells ⟨[.bool false,.int .i64 0,.slice none 0 0],75,0,0,false⟩)
 have hlk:=hM3.at'.lookup (idxOf (nms G) t) q
 have hlk2:=(hM3.at'.extS (S:=fun _=>False) hK3.toS (fun c=>c)).lookup (idxOf (nms G) t) q
 unfold keyV at hlk hlk2
 refine Dw_text (n:=189) [[],[0],[0,1],[0,1,2],[],[0,1,2,3,4],[0,1,2,3,4,5],[0,1,2,3,4,5,6],[0,1,2,3,4,5,6],[],[0,1,2,3,4,5,6,7,9],[0,1,2,3,4,5,6,7,8,9,10]] (by simp -dsimp only [go_sem,hn]) (by kernel_rfl) ?_
 cases hf:findM memo (idxOf (nms G) t) q 0 with
 | some z =>
   obtain ⟨zi,zv⟩:=z
   rw [hf] at hlk hlk2
   obtain ⟨hzm,_,_⟩:=findM_mem _ _ _ _ _ hf
   obtain ⟨y',k',o',e1,e2,e3,e4⟩:=hM3.good _ hzm
   have hyy:y'=y:=by
    have:=hgi.symm.trans e1
    injection this with this
    exact this.symm
   subst hyy
   have hoo:o'=o9:=run_det e2 hrun
   subst hoo
   rw [hname] at e4
   obtain ⟨e8,A8,n8,c8,hz,hsp8⟩:=e4.shape
   have hz:zv=.agg #[.bool (ruleO t o').1.isSome,.int .i64 e8,.slice A8 n8 c8]:=hz
   subst hz
   obtain ⟨wS,wO,wX,wB,wR⟩:=var_ok vB (e:=75) (c0:=[.bool false,.int .i64 0,.slice none 0 0]) (c1:=[.bool (ruleO t o').1.isSome,.int .i64 e8,.slice A8 n8 c8]) rfl rfl (by simp)
   have hZ4:=own_ext (vX.trans wX) hZ
   have hzs:=stores_own hZ4 (o:=0) (vs:=[.bool (ruleO t o').1.isSome,.int .i64 e8,.slice A8 n8 c8]) (c1:=[.bool (ruleO t o').1.isSome,.int .i64 e8,.slice A8 n8 c8]) rfl (by
    match zc,hzl with
    | [x,y,z],_=>rfl) (by simp)
   simp -dsimp only [go_sem,g0,g2,g4,g6,load_own hX3,load_own (own_ext hK3 hX3),loads_own vO,loads_own (own_ext hK3 vO),hlk,hlk2,sameN_sliceA hsp8,wS,loads_own wO,hzs]
   have hTP:TakeP G items B F bk Iv ic mm xb (ruleO t o') far h (.agg #[.bool (ruleO t o').1.isSome,.int .i64 e8,.slice A8 n8 c8]) (h3.var 75 [.bool false,.int .i64 0,.slice none 0 0] [.bool (ruleO t o').1.isSome,.int .i64 e8,.slice A8 n8 c8]):=by
    have hmax:max far (ruleO t o').2.2=far:=Nat.max_eq_left e3
    refine ⟨memo,(hx3.trans wX).toS,?_,?_,e4.keep (keepsE wX).any⟩
    ·rw [hmax];exact own_ext wX hX3
    ·rw [hmax];exact hM3.extS (S:=fun _=>False) wX.toS (fun _ _ _ _ c=>c) (fun c=>c) (Nat.le_refl _)
   exact hq1 _ _ _ _ _ (hTP.put hzn hZ4 (by decide) hxbn hmmn) (own_put_same hZ4 _) (by simp -dsimp only [go_sem,g6])
 | none =>
   rw [hf] at hlk hlk2
   obtain ⟨wS,wO,wX,wB,wR⟩:=var_ok vB (e:=75) (c0:=[.bool false,.int .i64 0,.slice none 0 0]) (c1:=[.bool false,.int .i64 0,.slice none 0 0]) rfl rfl (by simp)
   simp -dsimp only [go_sem,g0,g2,g4,g6,load_own hX3,load_own (own_ext hK3 hX3),loads_own vO,loads_own (own_ext hK3 vO),hlk,hlk2,wS]
   have hobn:h3.next=h3.next:=rfl
   generalize hob:h3.next=ob at wO ⊢
   generalize h3.var 75 [.bool false,.int .i64 0,.slice none 0 0] [.bool false,.int .i64 0,.slice none 0 0]=h4 at wS wO wX wB wR ⊢
   have hx4:=hx3.trans wX
   have hX4:=own_ext wX hX3
   have hM4:MemoOk G items h4 B F far mm memo:=hM3.extS (S:=fun _=>False) wX.toS (fun _ _ _ _ c=>c) (fun c=>c) (Nat.le_refl _)
   have hB4:=hBk.ext hx4
   have hK4:=own_ext wX vO
   have hon:h.next≤ob:=by rw [←hob];exact hx3.next
   have hkn:h.next≤h2.next:=hx.next
   have hko:h2.next≠ob:=by
    rw [←hob]
    exact Nat.ne_of_lt vO.2.1
   have hZ4:=own_ext (vX.trans wX) hZ
   have hP4:=own_ext (vX.trans wX) hP
   have hzo:zb≠ob:=by
    rw [←hob]
    exact Nat.ne_of_lt (own_ext vX hZ).2.1
   have hpo:pb≠ob:=by
    rw [←hob]
    exact Nat.ne_of_lt (own_ext vX hP).2.1
   refine Dw_text (n:=189) [[],[],[1],[1,2],[1,2,3],[1,2,3,4],[1,2,3,4,5],[1,2,3,4,5,6],[1,2,3,4,5,6,7],[],[9],[1,2,3,4,5,6,7,8,9,10],[1,2,3,4,5,6,7,8,9,10,11],[1,2,3,4,5,6,7,8,9,10,11,12],[],[0,1,2,3,4,5,6,7,8,9,10,11,12,13,14],[0,1,2,3,4,5,6,7,8,9,10,11,12,13,14,15]] (by simp -dsimp only [go_sem,hn]) (by kernel_rfl) ?_
   obtain ⟨v5,h5,hs5,memo5,hx5,hX5,hM5,hV5⟩:=ih B F far q h4 _ memo o9 (hBnd.mono (hx4.toS (S:=Two xb mm))) hfar hq (hx4.rom.trans hrom) wB hX4 hM4 hB4 hkid hrun ho9
   simp -dsimp only [go_sem,g0,g2,g4,g6,load_own hX4,load_own hB4.own,load_own hK4,ia22 hidx,loads_ro (n:=3) (hx4.rom.trans hrom) hat2 rfl,sameN_sliceA R.hs,sameN_sliceA hkid.same]
   refine ⟨_,h5,hs5,?_⟩
   have hx05:ExtS (Two xb mm) h h5:=hx4.toS.trans hx5
   have hO5:=own_extS hx5 wO (by rintro (c|c)<;>omega)
   have hK5:=own_extS hx5 hK4 (by rintro (c|c)<;>omega)
   have hZ5:=own_extS hx5 hZ4 (by rintro (c|c)<;>omega)
   have hP5:=own_extS hx5 hP4 (by rintro (c|c)<;>omega)
   have hb5:h5.base≤h5.next:=ext_bn hx05 hb
   have fin:∀(h6:Hp) (x y z:Value),ExtS (Two xb mm) h h6→h6.own xb 128 (runRow bk Iv items.length ic mm (max far o9.2.2))→MemoOk G items h6 B F (max far o9.2.2) mm memo5→OutV h6 B F (ruleO t o9).1 (.agg #[x,y,z])→h6.own ob 75 [x,y,z]→h6.own zb 75 zc→[x,y,z].all oneCell=true →
     ∃ob7,mapUpdate' Try.prog h6 126 (.map (some mm)) (.agg #[.int .i64 ((idxOf (nms G) t:Nat):Int),.int .i64 (q:Int)]) (.agg #[x,y,z])=some (h6.put mm ob7)∧(h6.put mm ob7).own ob 75 [x,y,z]∧(h6.put mm ob7).stores ⟨zb,0,none⟩ [x,y,z]=some ((h6.put mm ob7).put zb (.cells ⟨[x,y,z],75,0,0,false⟩)) ∧
      TakeP G items B F bk Iv ic mm xb (ruleO t o9) far h (.agg #[x,y,z]) ((h6.put mm ob7).put zb (.cells ⟨[x,y,z],75,0,0,false⟩))∧((h6.put mm ob7).put zb (.cells ⟨[x,y,z],75,0,0,false⟩)).own zb 75 [x,y,z]:=by
    intro h6 x y2 z q1 q2 q3 q4 q5 q6 q7
    obtain ⟨ob7,memo7,u1,u2,u3⟩:=q3.at'.update (idxOf (nms G) t) q (.agg #[x,y2,z])
    obtain ⟨esq,nq,hmq⟩:=q3.at'.map
    have xq:ExtS (Only mm) h6 (h6.put mm ob7):=((Ext.refl h6).toS (S:=Only mm)).put (b:=mm) (.inr rfl) _
    have kq:=keepsN xq (noRow_map hmq)
    have hzq:=own_extS xq q6 (by show zb≠mm;omega)
    have hzs:=stores_own hzq (o:=0) (vs:=[x,y2,z]) (c1:=[x,y2,z]) q7 (by
     match zc,hzl with
     | [x,y,z],_=>rfl) (by simp)
    have hTP:TakeP G items B F bk Iv ic mm xb (ruleO t o9) far h (.agg #[x,y2,z]) (h6.put mm ob7):=by
     refine ⟨memo7,q1.put (.inr (.inr rfl)) _,own_extS xq q2 (by
      intro c
      have c':xb=mm:=c
      have:=q2.2.2;rw [c',hmq] at this;simp at this),⟨u2,fun e he => ?_⟩,q4.keep kq.any⟩
     rcases u3 e he with c|c
     ·exact (q3.good e c).keep kq.any (Nat.le_refl _)
     ·subst c
      exact ⟨y,k,o9,hgi,hrun,Nat.le_max_right _ _,by rw [hname];exact q4.keep kq.any⟩
    exact ⟨ob7,u1,own_extS xq q5 (by show ob≠mm;omega),hzs,hTP.put hzn hzq (by decide) hxbn hmmn,own_put_same hzq _⟩
   cases ho:o9.1 with
   | none =>
     rw [ho] at hV5
     have hV5:v5=.agg #[.bool false,.int .i64 0,.slice none 0 0]:=hV5
     subst hV5
     have hos:=stores_own hO5 (o:=0) (vs:=[.bool false,.int .i64 0,.slice none 0 0]) (c1:=[.bool false,.int .i64 0,.slice none 0 0]) rfl rfl (by simp)
     have hO6:=own_put_same hO5 [.bool false,.int .i64 0,.slice none 0 0]
     have xo:ExtS (Only ob) h5 (h5.put ob (.cells ⟨[.bool false,.int .i64 0,.slice none 0 0],75,0,0,false⟩)):=((Ext.refl h5).toS (S:=Only ob)).put (b:=ob) (.inr rfl) _
     have ko:=keepsN xo (noRow_own hO5 (by decide))
     have hX6:=own_extS xo hX5 (by show xb≠ob;omega)
     have hK6:=own_extS xo hK5 hko
     have hr1:(ruleO t o9).1=none:=by unfold ruleO;rw [ho]
     obtain ⟨ob7,f1,f2,f3,f4,f5⟩:=fin (h5.put ob (.cells ⟨[.bool false,.int .i64 0,.slice none 0 0],75,0,0,false⟩)) _ _ _ (hx05.put (.inl hon) _) hX6 (hM5.extS xo (noRow_own hO5 (by decide)) (by show mm≠ob;omega) (Nat.le_refl _)) (by rw [hr1];rfl) hO6 (own_extS xo hZ5 hzo) rfl
     unfold runRow at hX6
     simp -dsimp only [go_sem,hos,load_own hO6]
     refine Dw_text (n:=189) [[],[0],[0,1],[0,1,2],[],[],[0,1,2,3,4,5]] (by simp -dsimp only [go_sem,hn]) (by kernel_rfl) ?_
     simp -dsimp only [go_sem,g0,g6,load_own hX6,loads_own hK6,loads_own hO6,f1,loads_own f2,f3]
     exact hq1 _ _ _ _ _ f4 f5 (by simp -dsimp only [go_sem,g6])
   | some w =>
     obtain ⟨ks,e⟩:=w
     rw [ho] at hV5
     obtain ⟨kv,rfl,hkv⟩:=hV5
     obtain ⟨A9,c9,rfl,hsp9⟩:=hkv.slice
     have hos:=stores_own hO5 (o:=0) (vs:=[.bool true,.int .i64 (e:Int),.slice A9 ks.length c9]) (c1:=[.bool true,.int .i64 (e:Int),.slice A9 ks.length c9]) rfl rfl (by simp)
     have hO6:=own_put_same hO5 [.bool true,.int .i64 (e:Int),.slice A9 ks.length c9]
     have xo:ExtS (Only ob) h5 (h5.put ob (.cells ⟨[.bool true,.int .i64 (e:Int),.slice A9 ks.length c9],75,0,0,false⟩)):=((Ext.refl h5).toS (S:=Only ob)).put (b:=ob) (.inr rfl) _
     have hP6:=own_extS xo hP5 hpo
     simp -dsimp only [go_sem,hos,load_own hO6]
     have k6:=hkv.keep (keepsN xo (noRow_own hO5 (by decide))).any
     have hM6:=hM5.extS xo (noRow_own hO5 (by decide)) (by show mm≠ob;omega) (Nat.le_refl _)
     have hX6:=own_extS xo hX5 (by show xb≠ob;omega)
     have hK6:=own_extS xo hK5 hko
     have hZ6:=own_extS xo hZ5 hzo
     have hx06:=hx05.put (b:=ob) (.inl hon) (.cells ⟨[.bool true,.int .i64 (e:Int),.slice A9 ks.length c9],75,0,0,false⟩)
     generalize (h5.put ob (.cells ⟨[.bool true,.int .i64 (e:Int),.slice A9 ks.length c9],75,0,0,false⟩))=h6 at hO6 hP6 k6 hM6 hX6 hK6 hZ6 hx06 ⊢
     have hb6:h6.base≤h6.next:=ext_bn hx06 hb
     have hrow:=own_new hb6 31 [.string ⟨#[114,117,108,101]⟩,.string t,.slice A9 ks.length c9]
     have hxr:=Ext.new h6 (CObj.cells ⟨[.string ⟨#[114,117,108,101]⟩,.string t,.slice A9 ks.length c9],31,0,0,false⟩)
     have hOr:=own_ext hxr hO6
     have hos7:=stores_own hOr (o:=2) (vs:=[.slice (some ⟨h6.next,0,none⟩) 1 1]) (c1:=[.bool true,.int .i64 (e:Int),.slice (some ⟨h6.next,0,none⟩) 1 1]) rfl rfl (by simp)
     have hO7:=own_put_same hOr [.bool true,.int .i64 (e:Int),.slice (some ⟨h6.next,0,none⟩) 1 1]
     have xo7:ExtS (Only ob) _ ((h6.newH (CObj.cells ⟨[.string ⟨#[114,117,108,101]⟩,.string t,.slice A9 ks.length c9],31,0,0,false⟩)).put ob (.cells ⟨[.bool true,.int .i64 (e:Int),.slice (some ⟨h6.next,0,none⟩) 1 1],75,0,0,false⟩)):=((Ext.refl _).toS (S:=Only ob)).put (b:=ob) (.inr rfl) _
     have ko7:=keepsN xo7 (noRow_own hOr (by decide))
     have hX7:=own_extS xo7 (own_ext hxr hX6) (by show xb≠ob;omega)
     have hK7:=own_extS xo7 (own_ext hxr hK6) hko
     have hM7:=(hM6.extS (S:=fun _=>False) hxr.toS (fun _ _ _ _ c=>c) (fun c=>c) (Nat.le_refl _)).extS xo7 (noRow_own hOr (by decide)) (by show mm≠ob;omega) (Nat.le_refl _)
     have hr1:(ruleO t o9).1=some ([ruleT t ks],e):=by unfold ruleO;rw [ho]
     have hnb:¬B h6.next:=fun c=>by have:=hBnd.b _ c;have:=hx06.next;omega
     have hT7:KidsAt _ B F [ruleT t ks] (.slice (some ⟨h6.next,0,none⟩) 1 1):=(kids_new hrow hnb (fun c=>(hBnd.f 0 c).1 rfl) (k6.keep (keepsE hxr).any)).keep ko7.any
     obtain ⟨ob7,f1,f2,f3,f4,f5⟩:=fin _ _ _ _ ((hx06.trans hxr.toS).put (.inl hon) _) hX7 hM7 (by rw [hr1];exact ⟨_,rfl,hT7⟩) hO7 (own_extS xo7 (own_ext hxr hZ6) hzo) rfl
     unfold runRow at hX7
     simp -dsimp only [go_sem,g4,load_own hP6,load_own hO6,bs29 1 (by decide),repeatN,hos7]
     refine Dw_text (n:=189) [[],[0],[0,1],[0,1,2],[],[],[0,1,2,3,4,5]] (by simp -dsimp only [go_sem,hn]) (by kernel_rfl) ?_
     simp -dsimp only [go_sem,g0,g6,load_own hX7,loads_own hK7,loads_own hO7,f1,loads_own f2,f3]
     exact hq1 _ _ _ _ _ f4 f5 (by simp -dsimp only [go_sem,g6])
end Go.Ev.G24
end
section
namespace Go.Ev.G24
open Go.RowKit Go.Proofs
variable {r:Ro} {G:List Rule} {items:List ByteArray} {Gv Iv:Option Addr} {gc ic xb:Nat}
set_option maxHeartbeats 8000000 in
set_option maxRecDepth 10000 in
theorem ref_or {k:Nat} {d t:ByteArray} {l:List Part} {Av:Option Addr} {c b o pb:Nat} {css:Nat→List Value} (ih:∀(i:Nat) (p:Part),l[i]? = some p→RefC r G items Gv Iv gc ic xb k p)
  (hlb:l.length≤100000) (hA:l≠[]→Av=some ⟨b,o,none⟩) (hat:∀(i:Nat) (p:Part),l[i]? = some p→roAt r b (o+i*3) (css i)) (hk:∀(i:Nat) (p:Part),l[i]? = some p→RoPart r p (css i)) (hN:items.length≤1000)
  {a:Ev.A} {h2:Hp} {Q:Ex→Ev.A→Hp→Prop} {s lb:Int} {far q:Nat} (hn:a.n=241) (hrom:h2.rom=r) (hb2:h2.base≤h2.next) (hX:h2.own xb 71 (pRow G items Gv Iv gc ic far s)) (hP:h2.own pb 52 [.string d,.string t,.slice Av l.length c])
  (hs0:0≤s) (hs1:s<(k:Int)) (hs2:s≤50000) (hfar:far≤items.length) (hq:q≤items.length) (hlow:∀z,0≤z→z≤s→lb+100000≤low z) (hlb2 : -1000000000000≤lb)
  (g0:a.get 0=.pointer (some ⟨xb,0,none⟩)) (g2:a.get 2=.int .i64 (q:Int)) (g4:a.get 4=.pointer (some ⟨pb,0,none⟩)) (g17:a.get 17=.int .i64 0)
  (hq1:∀a1 h1 x6 x7 x8,RefL G items Gv Iv gc ic xb (.alt l q) far s lb h2 (.tuple #[x6,x7,x8]) h1→a1.get 6=x6→a1.get 7=x7→a1.get 8=x8→Q .ret a1 h1)
  (hq0:∀a1 h1,RefL G items Gv Iv gc ic xb (.alt l q) far s lb h2 (.tuple #[.slice none 0 0,.int .i64 0,.bool false]) h1→Q (.exit 3) a1 h1) :
  Th Try.prog (bodyAt Try.f40 [1,1,1,0,1,0,1,1,1,1,1,1,1,0,0,1,0]) a h2 Q ⟨⟩ ⟨⟩:=by
 simp only [bodyAt,nav,Try.f40]
 have hpx:pb≠xb:=by
  intro e;have:=hP.2.2;rw [e,hX.2.2] at this;simp at this
 refine loop_go (n:=241) (by kernel_rfl) (fun m' a' h'=>∃(i fr:Nat) (z:Int),i≤l.length∧m'=l.length - i∧ExtS (Only xb) h2 h'∧h'.own xb 71 (pRow G items Gv Iv gc ic fr z)∧fr≤items.length ∧
  ((∃u fc:Nat,z=s - (u:Int)∧0≤z∧fr=max far fc∧(∀k o,run G items k (.alt (l.drop i) q)=some o→∃k',run G items k' (.alt l q)=some (joinO u fc o)))∨(z<0∧lb+(100000 - (i:Int))≤z)) ∧
  a'.get 0=.pointer (some ⟨xb,0,none⟩)∧a'.get 2=.int .i64 (q:Int)∧a'.get 4=.pointer (some ⟨pb,0,none⟩)∧a'.get 17=.int .i64 i) ?_ l.length _ _ hn ⟨0,far,s,Nat.zero_le _,rfl,(Ext.refl _).toS,hX,hfar,.inl ⟨0,0,by simp,hs0,by simp,fun k o e=>⟨k,by rw [List.drop_zero] at e;rw [e];simp [joinO]⟩⟩,g0,g2,g4,g17⟩
 rintro m' a' h' hn' ⟨i,fr,z,hi,rfl,hx,hX',hfr,hst,e0,e2,e4,e17⟩
 have hrom':h'.rom=r:=ext_rom hx hrom
 have hb':h'.base≤h'.next:=ext_bn hx hb2
 have hP':=own_extS hx hP hpx
 by_cases hlt:i<l.length
 ·have hpi:l[i]? = some l[i]:=List.getElem?_eq_getElem hlt
  have hi1:decide ((i:Int)<(l.length:Int))=true:=decide_eq_true (Int.ofNat_lt.2 hlt)
  obtain ⟨Av1,c1',hcs⟩:=(hk i _ hpi).shape
  have hat':=hat i _ hpi
  have hkid:=hk i _ hpi
  rw [hcs] at hat' hkid
  have hAv:=hA (ne_nil hlt)
  subst hAv
  have hdr:l.drop i=l[i]::l.drop (i+1):=List.drop_eq_getElem_cons hlt
  have hz1:z<(k:Int):=by
   rcases hst with ⟨u,fc,e1,_⟩|⟨e1,_⟩
   ·omega
   ·omega
  have hz2 : -1000000000000≤z:=by
   rcases hst with ⟨u,fc,e1,e2,_⟩|⟨e1,e2⟩
   ·omega
   ·omega
  obtain ⟨v4,h4,hs4,far4,s4,hx4,hX4,hf4,hcase⟩:=ih i _ hpi z fr q h' _ hz1 hz2 (by rcases hst with ⟨u,fc,e1,e2,_⟩|⟨e1,e2⟩<;>omega) hfr hq hrom' hb' hX' hkid
  simp -dsimp only [go_sem,e0,e2,e4,e17,hi1,load_own hP',ia50 hlt,loads_ro (n:=3) hrom' hat' rfl]
  refine ⟨_,h4,hs4,?_⟩
  have hx24:ExtS (Only xb) h2 h4:=hx.trans hx4
  rcases hcase with ⟨k4,⟨r4,n4,f4⟩,hrun,hs,hsp,hf,hres⟩|⟨hneg,hlw,A,n,c',e',rfl,hspA⟩
  ·have hs:s4=z - (n4:Int):=hs
   have hf:far4=max fr f4:=hf
   rcases hst with ⟨u,fc,hz,hz0,hfe,hcont⟩|⟨hz,_⟩
   rotate_left
   ·exfalso;omega
   cases r4 with
   | some y =>
     obtain ⟨ks,e⟩:=y
     obtain ⟨kv,rfl,hkv⟩:=hres
     simp -dsimp only [go_sem]
     obtain ⟨k',hk'⟩:=hcont _ _ (by rw [hdr];exact run_alt_yes hrun)
     refine hq1 _ _ kv (.int .i64 (e:Int)) (.bool true) ⟨far4,s4,hx24,hX4,hf4,.inl ⟨k',_,hk',?_,hsp,?_,kv,rfl,hkv.more (fun b _ c=>Nat.lt_of_lt_of_le c hx.next) (fun f c=>.inl ⟨c.1,Nat.lt_of_lt_of_le c.2 hx.nfam⟩)⟩⟩ (by simp -dsimp only [go_sem]) (by simp -dsimp only [go_sem]) (by simp -dsimp only [go_sem])
     ·simp only [joinO];omega
     ·simp only [joinO];rw [hf,hfe];simp only [Nat.max_assoc]
   | none =>
     obtain ⟨A,n,c',e',rfl,hspA⟩:=hres
     simp -dsimp only [go_sem,e0,e2,e4,e17,wrap64_succ hlt (Nat.le_trans hlb (by decide))]
     refine ⟨l.length - (i+1),by omega,i+1,far4,s4,hlt,rfl,hx24,hX4,hf4,.inl ⟨u+n4,max fc f4,by omega,hsp,by rw [hf,hfe];simp only [Nat.max_assoc],fun k o ho => ?_⟩,rfl⟩
     obtain ⟨k',hk'⟩:=hcont _ _ (by rw [hdr];exact run_alt hrun ho)
     refine ⟨k',?_⟩
     rw [hk']
     simp only [joinO,Nat.add_assoc,Nat.max_assoc]
  ·simp -dsimp only [go_sem,e0,e2,e4,e17,wrap64_succ hlt (Nat.le_trans hlb (by decide))]
   refine ⟨l.length - (i+1),by omega,i+1,far4,s4,hlt,rfl,hx24,hX4,hf4,.inr ⟨hneg,?_⟩,rfl⟩
   rcases hst with ⟨u,fc,hz,hz0,hfe,hcont⟩|⟨hz,hz'⟩
   ·have:=hlow z hz0 (by omega)
    omega
   ·unfold low at hlw
    rw [if_pos hz] at hlw
    omega
 ·have hi0:decide ((i:Int)<(l.length:Int))=false:=decide_eq_false (by omega)
  have hil:i=l.length:=by omega
  subst hil
  simp -dsimp only [go_sem,e0,e2,e4,e17,hi0,load_own hP']
  rcases hst with ⟨u,fc,hz,hz0,hfe,hcont⟩|⟨hz,hz'⟩
  ·obtain ⟨k',hk'⟩:=hcont 1 (none,0,0) (by rw [List.drop_length];rfl)
   refine hq0 _ _ ⟨_,_,hx,hX',hfr,.inl ⟨k',_,hk',?_,hz0,?_,_,_,_,_,rfl,rfl⟩⟩
   ·simp only [joinO];omega
   ·simp only [joinO];rw [hfe];simp
  ·exact hq0 _ _ ⟨_,_,hx,hX',hfr,.inr ⟨hz,by omega,_,_,_,_,rfl,rfl⟩⟩
set_option maxHeartbeats 8000000 in
set_option maxRecDepth 10000 in
theorem ref_many {k:Nat} {d t:ByteArray} {x:Part} {c b o pb:Nat} {cx:List Value} (ih:RefC r G items Gv Iv gc ic xb k x)
  (hat0:roAt r b o cx) (hk0:RoPart r x cx) (hN:items.length≤1000)
  {a:Ev.A} {h2:Hp} {Q:Ex→Ev.A→Hp→Prop} {s lb:Int} {far q:Nat} (hn:a.n=241) (hrom:h2.rom=r) (hb2:h2.base≤h2.next) (hX:h2.own xb 71 (pRow G items Gv Iv gc ic far s)) (hP:h2.own pb 52 [.string d,.string t,.slice (some ⟨b,o,none⟩) 1 c])
  (hs0:0≤s) (hs1:s<(k:Int)) (hs2:s≤50000) (hfar:far≤items.length) (hq:q≤items.length) (hlow:∀z,0≤z→z≤s→lb+100000≤low z)
  (g0:a.get 0=.pointer (some ⟨xb,0,none⟩)) (g2:a.get 2=.int .i64 (q:Int)) (g4:a.get 4=.pointer (some ⟨pb,0,none⟩)) (g21:a.get 21=.slice none 0 0)
  (hq1:∀a1 h1 x6 x7 x8,RefL G items Gv Iv gc ic xb (.many x q []) far s lb h2 (.tuple #[x6,x7,x8]) h1→a1.get 6=x6→a1.get 7=x7→a1.get 8=x8→Q .ret a1 h1) :
  Th Try.prog (bodyAt Try.f40 [1,1,1,0,1,0,1,1,1,1,1,1,1,1,1,0,1,0]) a h2 Q ⟨⟩ ⟨⟩:=by
 have hpx:pb≠xb:=by
  intro e;have:=hP.2.2;rw [e,hX.2.2] at this;simp at this
 have hxn:xb<h2.next:=hX.2.1
 have hix:indexAddr' Try.prog 50 (.slice (some ⟨b,o,none⟩) 1 c) (.int .i64 0)=some (.pointer (some ⟨b,o,none⟩)):=by
  have:=ia50 (b:=b) (o:=o) (c:=c) (n:=1) (i:=0) (by decide)
  simpa using this
 obtain ⟨Av1,c1',hcs⟩:=hk0.shape
 have hat':=hat0
 have hkid:=hk0
 rw [hcs] at hat' hkid
 simp only [bodyAt,nav,Try.f40]
 refine loop_go (n:=241) (by kernel_rfl) (fun m' a' h'=>∃(q' u fc:Nat) (acc:List Part) (v:Value),(m':Int)=s - (u:Int)∧ExtS (Only xb) h2 h'∧h'.own xb 71 (pRow G items Gv Iv gc ic (max far fc) (s - (u:Int)))∧(u:Int)≤s∧max far fc≤items.length∧q'≤items.length∧acc.length≤u ∧
  Mine h' h2.next h2.nfam (fun b=>b<h2.next) (fun f=>f≠0∧f<h2.nfam) acc v∧(∀k o,run G items k (.many x q' acc)=some o→∃k',run G items k' (.many x q [])=some (joinO u fc o)) ∧
  a'.get 0=.pointer (some ⟨xb,0,none⟩)∧a'.get 2=.int .i64 (q':Int)∧a'.get 4=.pointer (some ⟨pb,0,none⟩)∧a'.get 21=v) ?_ s.toNat _ _ hn ⟨q,0,0,[],_,by omega,(Ext.refl _).toS,by simpa using hX,by simpa using hs0,by simpa using hfar,hq,Nat.le_refl _,.inl ⟨rfl,rfl⟩,fun k o e=>⟨k,by rw [e];simp [joinO]⟩,g0,g2,g4,g21⟩
 rintro m' a' h' hn' ⟨q',u,fc,acc,v,hm,hx,hX',hu,hfc,hq',hacc,hMi,hcont,e0,e2,e4,e21⟩
 have hrom':h'.rom=r:=ext_rom hx hrom
 have hb':h'.base≤h'.next:=ext_bn hx hb2
 have hP':=own_extS hx hP hpx
 obtain ⟨v4,h4,hs4,far4,s4,hx4,hX4,hf4,hcase⟩:=ih (s - (u:Int)) (max far fc) q' h' _ (by omega) (by omega) (by omega) hfc hq' hrom' hb' hX' hkid
 simp -dsimp only [go_sem,e0,e2,e4,e21,load_own hP',hix,loads_ro (n:=3) hrom' hat' rfl]
 refine ⟨_,h4,hs4,?_⟩
 have hx24:ExtS (Only xb) h2 h4:=hx.trans hx4
 have hkeep:=keepsN hx4 (noRow_own hX' (by decide))
 have hM4:=hMi.keepK hkeep
 have hb4:h4.base≤h4.next:=ext_bn hx24 hb2
 rcases hcase with ⟨k4,⟨r4,n4,f4⟩,hrun,hs,hsp,hf,hres⟩|⟨hneg,hlw,A,n,c',e',rfl,hspA⟩
 ·have hs:s4=s - (u:Int) - (n4:Int):=hs
  have hf:far4=max (max far fc) f4:=hf
  cases r4 with
  | none =>
    obtain ⟨A,n,c',e',rfl,hspA⟩:=hres
    obtain ⟨A9,n9,c9,rfl,hsp9⟩:=hMi.slice
    simp -dsimp only [go_sem]
    refine Dw_text (n:=241) [[],[0],[0,1],[],[],[4],[4,5],[4,5,6],[4,5,6,7],[0,1,2],[0,1,2,3,9],[0,1,2,3,4,5,6,7,8,9,10]] (by simp -dsimp only [go_sem,hn']) (by kernel_rfl) ?_
    have hrow:=own_new hb4 31 [.string ⟨#[109,97,110,121]⟩,.string ⟨#[]⟩,.slice A9 n9 c9]
    have hxr:=Ext.new h4 (CObj.cells ⟨[.string ⟨#[109,97,110,121]⟩,.string ⟨#[]⟩,.slice A9 n9 c9],31,0,0,false⟩)
    have hX5:=own_ext hxr hX4
    have hge:decide (0≤s4)=true:=decide_eq_true hsp
    simp -dsimp only [go_sem,e0,e2,e4,e21,bs29 1 (by decide),repeatN,load_own hX4,load_own hX5,pRow,hge,sameN_sliceA hsp9]
    obtain ⟨k',hk'⟩:=hcont _ _ (run_many_no hrun)
    refine hq1 _ _ (.slice (some ⟨h4.next,0,none⟩) 1 1) (.int .i64 (q':Int)) (.bool true) ⟨far4,s4,hx24.trans hxr.toS,hX5,hf4,.inl ⟨k',_,hk',?_,hsp,?_,_,rfl,?_⟩⟩ (by simp -dsimp only [go_sem]) (by simp -dsimp only [go_sem]) (by simp -dsimp only [go_sem])
    ·simp only [joinO];omega
    ·simp only [joinO];rw [hf];simp only [Nat.max_assoc]
    ·refine kids_new hrow (by have:=hx24.next;omega) (fun c=>c.1 rfl) ?_
     exact ((hM4.kidsAt (fun b c=>c) (fun f c=>c)).keep (keepsE hxr).any)
  | some y =>
    obtain ⟨ks,e⟩:=y
    obtain ⟨kv,rfl,hkv⟩:=hres
    have hfair:=run_fair _ _ _ (show placeT (.part x q')≤items.length from hq') hrun
    obtain ⟨hfn,hen,hfk⟩:=hfair
    simp only [accT,List.length_nil,Nat.zero_add] at hfk hen hfn
    have hn4:n4≤50000:=by omega
    have hp4:1≤n4:=run_pos hrun
    obtain ⟨hkl,_⟩:=hfk (by omega) (fun p hp=>by simp at hp)
    have hK4:=callee_kids hMi hkeep hx.next hx.nfam hkv
    have hnx:h2.next≤h4.next:=hx24.next
    have hnf:h2.nfam≤h4.nfam:=hx24.nfam
    obtain ⟨v',h6,ha6,hM6,hext6,hkp6,_⟩:=mine_append hM4 hK4 hb4 hnx hnf (by omega) (fun x c=>Nat.lt_of_lt_of_le c hnx) (fun q c=>Nat.lt_of_lt_of_le c.2 hnf)
    have hx6:=hext6 (Only xb) h2 hx24 (Nat.le_refl _) (Nat.le_refl _)
    have hX6:=own_same hX4 ((below_same hext6 hnx hnf).1 xb hxn) (hx6.base.trans hx24.base.symm) hkp6.next
    simp -dsimp only [go_sem,e0,e2,e4,e21,builtin',ha6]
    refine ⟨(s - ((u+n4:Nat):Int)).toNat,by omega,e,u+n4,max fc f4,acc++ks,v',by omega,hx6,?_,by omega,?_,hen,by rw [List.length_append];omega,hM6,?_,rfl,rfl⟩
    ·have e1:far4=max far (max fc f4):=by rw [hf];simp only [Nat.max_assoc]
     have e2:s4=s - ((u+n4:Nat):Int):=by omega
     rw [←e1,←e2]
     exact hX6
    ·rw [←Nat.max_assoc,←hf];exact hf4
    ·intro k o ho
     obtain ⟨k',hk'⟩:=hcont _ _ (run_many hrun ho)
     refine ⟨k',?_⟩
     rw [hk']
     simp only [joinO,Nat.add_assoc,Nat.max_assoc]
 ·obtain ⟨A9,n9,c9,rfl,hsp9⟩:=hMi.slice
  simp -dsimp only [go_sem]
  refine Dw_text (n:=241) [[],[0],[0,1],[],[],[4],[4,5],[4,5,6],[4,5,6,7],[0,1,2],[0,1,2,3,9],[0,1,2,3,4,5,6,7,8,9,10]] (by simp -dsimp only [go_sem,hn']) (by kernel_rfl) ?_
  have hxr:=Ext.new h4 (CObj.cells ⟨[.string ⟨#[109,97,110,121]⟩,.string ⟨#[]⟩,.slice A9 n9 c9],31,0,0,false⟩)
  have hX5:=own_ext hxr hX4
  have hge:decide (0≤s4)=false:=decide_eq_false (by omega)
  simp -dsimp only [go_sem,e0,e2,e4,e21,bs29 1 (by decide),repeatN,load_own hX4,load_own hX5,pRow,hge,sameN_sliceA hsp9]
  refine hq1 _ _ (.slice (some ⟨h4.next,0,none⟩) 1 1) (.int .i64 (q':Int)) (.bool false) ⟨far4,s4,hx24.trans hxr.toS,hX5,hf4,.inr ⟨hneg,?_,_,_,_,_,rfl,rfl⟩⟩ (by simp -dsimp only [go_sem]) (by simp -dsimp only [go_sem]) (by simp -dsimp only [go_sem])
  have:=hlow (s - (u:Int)) (by omega) (by omega)
  omega
end Go.Ev.G24
end
section
namespace Go.Ev.G24
open Go.RowKit Go.Proofs
variable {r:Ro} {G:List Rule} {items:List ByteArray} {Gv Iv:Option Addr} {gc ic xb:Nat}
theorem wrap_pred {s:Int} (h1 : -1000000000000≤s) (h2:s≤1000000):IntKind.i64.wrap (s - 1)=s - 1:=by
 rw [IntKind.wrap_i64];omega
set_option maxHeartbeats 4000000 in
set_option maxRecDepth 10000 in
theorem ref_neg {k:Nat} {p:Part} (s:Int) (hs:s≤0) (far q:Nat) (h:Hp) (cs:List Value) (hs1 : -1000000000000≤s) (hfar:far≤items.length) (hrom:h.rom=r) (hb:h.base≤h.next)
  (hX:h.own xb 71 (pRow G items Gv Iv gc ic far s)) (hp:RoPart r p cs):∃v h1,Snd Try.prog 40 [.pointer (some ⟨xb,0,none⟩),.agg cs.toArray,.int .i64 (q:Int)] h v h1∧RefL G items Gv Iv gc ic xb (.part p q) far s (low s) h v h1:=by
 obtain ⟨Av,c,rfl⟩:=hp.shape
 refine snd_go wf Try.func40 rfl rfl (n:=241) rfl (by kernel_rfl) rfl ?_
 intro a hn hg
 have hr:Try.f40.results.toList=[.tmp 6,.tmp 7,.tmp 8]:=rfl
 have g0:=hg 0
 have g1:=hg 1
 have g2:=hg 2
 clear hg
 simp only [List.getElem?_cons_zero,List.getElem?_cons_succ] at g0 g1 g2
 have hP:=own_new hb 52 [.string p.d,.string p.t,.slice Av p.l.length c]
 have hx0:=Ext.new h (CObj.cells ⟨[.string p.d,.string p.t,.slice Av p.l.length c],52,0,0,false⟩)
 have hX0:=own_ext hx0 hX
 unfold pRow at hX0
 have hst:=stores_own hX0 (o:=3) (vs:=[.int .i64 (s - 1)]) (c1:=[.slice Gv G.length gc,.slice Iv items.length ic,.int .i64 (far:Int),.int .i64 (s - 1)]) rfl rfl (by simp)
 have hX1:=own_put_same hX0 [.slice Gv G.length gc,.slice Iv items.length ic,.int .i64 (far:Int),.int .i64 (s - 1)]
 have hlt:decide (s - 1<0)=true:=decide_eq_true (by omega)
 simp -dsimp only [go_sem,g0,g1,g2,load_own hX0,wrap_pred hs1 (Int.le_trans hs (by decide)),hst,load_own hX1,hlt,hr]
 refine ⟨far,s - 1,(hx0.toS (S:=Only xb)).put (.inr rfl) _,hX1,hfar,.inr ⟨by omega,?_,_,_,_,_,rfl,rfl⟩⟩
 unfold low
 split<;>omega
theorem run_one {d t:ByteArray} {l:List Part} {q k:Nat} (h:d.data.toList=[105,115]):run G items (k+1) (.part ⟨d,t,l⟩ q)=some (oneO items (some t) q):=by
 show stepP G items (run G items k) d t l q=_
 unfold stepP
 rw [if_pos h]
theorem run_any {d t:ByteArray} {l:List Part} {q k:Nat} (h:d.data.toList=[97,110,121]):run G items (k+1) (.part ⟨d,t,l⟩ q)=some (oneO items none q):=by
 show stepP G items (run G items k) d t l q=_
 unfold stepP
 rw [if_neg (by rw [h];decide),if_pos h]
theorem run_rule {d t:ByteArray} {l:List Part} {q k:Nat} (h:d.data.toList=[114,117,108,101]):run G items (k+1) (.part ⟨d,t,l⟩ q)=(run G items k (.part (bodyOf G t) q)).map (ruleO t):=by
 show stepP G items (run G items k) d t l q=_
 unfold stepP
 rw [if_neg (by rw [h];decide),if_neg (by rw [h];decide),if_pos h]
theorem run_sq {d t:ByteArray} {l:List Part} {q k:Nat} (h:d.data.toList=[115,101,113]):run G items (k+1) (.part ⟨d,t,l⟩ q)=(run G items k (.seq l q [])).map plus1:=by
 show stepP G items (run G items k) d t l q=_
 unfold stepP
 rw [if_neg (by rw [h];decide),if_neg (by rw [h];decide),if_neg (by rw [h];decide),if_pos h]
theorem run_or {d t:ByteArray} {l:List Part} {q k:Nat} (h:d.data.toList=[111,114]):run G items (k+1) (.part ⟨d,t,l⟩ q)=(run G items k (.alt l q)).map plus1:=by
 show stepP G items (run G items k) d t l q=_
 unfold stepP
 rw [if_neg (by rw [h];decide),if_neg (by rw [h];decide),if_neg (by rw [h];decide),if_neg (by rw [h];decide),if_pos h]
theorem run_mn {d t:ByteArray} {x:Part} {q k:Nat} (h:d.data.toList=[109,97,110,121]):run G items (k+1) (.part ⟨d,t,[x]⟩ q)=(run G items k (.many x q [])).map plus1:=by
 show stepP G items (run G items k) d t [x] q=_
 unfold stepP
 rw [if_neg (by rw [h];decide),if_neg (by rw [h];decide),if_neg (by rw [h];decide),if_neg (by rw [h];decide),if_neg (by rw [h];decide),if_pos h]
 rfl
theorem run_opt {d t:ByteArray} {x:Part} {q k:Nat} (h:d.data.toList=[111,112,116]):run G items (k+1) (.part ⟨d,t,[x]⟩ q)=(run G items k (.part x q)).map (optO q):=by
 show stepP G items (run G items k) d t [x] q=_
 unfold stepP
 rw [if_neg (by rw [h];decide),if_neg (by rw [h];decide),if_neg (by rw [h];decide),if_neg (by rw [h];decide),if_neg (by rw [h];decide),if_neg (by rw [h];decide),if_pos h]
 rfl
theorem run_not {d t:ByteArray} {x:Part} {q k:Nat} (h:d.data.toList=[110,111,116]):run G items (k+1) (.part ⟨d,t,[x]⟩ q)=(run G items k (.part x q)).map (notO q):=by
 show stepP G items (run G items k) d t [x] q=_
 unfold stepP
 rw [if_neg (by rw [h];decide),if_neg (by rw [h];decide),if_neg (by rw [h];decide),if_neg (by rw [h];decide),if_neg (by rw [h];decide),if_neg (by rw [h];decide),if_neg (by rw [h];decide),if_pos h]
 rfl
theorem run_else {d t:ByteArray} {l:List Part} {q k:Nat} (c1:¬d.data.toList=[105,115]) (c2:¬d.data.toList=[97,110,121]) (c3:¬d.data.toList=[114,117,108,101]) (c4:¬d.data.toList=[115,101,113]) (c5:¬d.data.toList=[111,114]) (c6:¬d.data.toList=[109,97,110,121]) (c7:¬d.data.toList=[111,112,116]) (c8:¬d.data.toList=[110,111,116]) :
  run G items (k+1) (.part ⟨d,t,l⟩ q)=some (some ([],q),1,0):=by
 show stepP G items (run G items k) d t l q=_
 unfold stepP
 rw [if_neg c1,if_neg c2,if_neg c3,if_neg c4,if_neg c5,if_neg c6,if_neg c7,if_neg c8]
end Go.Ev.G24
end
section
namespace Go.Ev.G24
open Go.RowKit Go.Proofs
variable {r:Ro} {G:List Rule} {items:List ByteArray} {Gv Iv:Option Addr} {gc ic xb mm bk m eb:Nat} {em:List Bool} {B F:Nat→Prop}
theorem one_far {w:Option ByteArray} {q:Nat}:(oneO items w q).2.2=q:=by
 unfold oneO
 split
 ·split<;>rfl
 ·rfl
theorem one_take {h h2 h5:Hp} {far q:Nat} {memo:Memo} {w:Option ByteArray} {v:Value} (hx:Ext h h2) (hBnd:Bnd h B F) (hX2:h2.own xb 128 (runRow bk Iv items.length ic mm far)) (hM2:MemoOk G items h2 B F far mm memo) (hmx:mm≠xb) (k:OneP items w q bk Iv ic mm far xb h2 v h5) :
  TakeP G items B F bk Iv ic mm xb (oneO items w q) far h v h5∧∃x y z,v=.agg #[x,y,z]∧[x,y,z].all oneCell=true:=by
 obtain ⟨a1,a2,a3⟩:=k
 have n:=noRow_own hX2 (by decide)
 have hm5:MemoOk G items h5 B F (max far (oneO items w q).2.2) mm memo:=by
  rw [one_far];exact hM2.extS a1 n hmx (Nat.le_max_left _ _)
 have hx5:ExtS (Two xb mm) h h5:=hx.toS.trans (a1.mono (fun b _ c=>.inl c))
 have hX5:h5.own xb 128 (runRow bk Iv items.length ic mm (max far (oneO items w q).2.2)):=by rw [one_far];exact a2
 by_cases hb:oneB items w q=true
 ·rw [if_pos hb] at a3
  obtain ⟨s,nb,b1,rfl,b3,b4⟩:=a3
  refine ⟨⟨memo,hx5,hX5,hm5,?_⟩,_,_,_,rfl,rfl⟩
  have ht:testB w s=true:=by unfold oneB at hb;rw [b1] at hb;exact hb
  unfold oneO
  rw [b1]
  simp only [ht,if_true]
  refine ⟨_,rfl,kids_new b4 (fun c => ?_) (fun c=>(hBnd.f 0 c).1 rfl) KidsAt.nil⟩
  have:=hBnd.b _ c
  have:=hx.next
  omega
 ·rw [if_neg hb] at a3
  subst a3
  refine ⟨⟨memo,hx5,hX5,hm5,?_⟩,_,_,_,rfl,rfl⟩
  unfold oneB at hb
  unfold oneO
  cases hi:items[q]? with
  | none=>rfl
  | some s =>
    rw [hi] at hb
    simp only [hb,if_false]
    rfl
theorem run_z {t:Task} {o:Outc}:¬run G items 0 t=some o:=by intro h;cases h
set_option maxHeartbeats 16000000 in
set_option maxRecDepth 10000 in
theorem take_c {gb go ib io:Nat} {gcss:Nat→List Value} (R:RoRules r G Gv gc gb go gcss) (RI:RoItems r items Iv ic ib io) (hnm:∀(i:Nat) (x:Rule),G[i]? = some x→named (nms G) x.body) (hfw:∀(i:Nat) (x:Rule),G[i]? = some x→Few x.body) (hmne:m≠mm) :
  ∀(k:Nat) (p:Part),named (nms G) p→Few p→TakeC r G items Gv Iv gc ic xb mm bk m eb em k p:=by
 intro k
 induction k with
 | zero=>exact fun p _ _ B F far q h cs memo o _ _ _ _ _ _ _ _ _ hrun _=>absurd hrun run_z
 | succ k ih =>
 rintro ⟨d,t,l⟩ hnp hfp B F far q h cs memo o9 hBnd hfar hq hrom hb hX hM hBk hp hrun ho9
 have hGl:(nms G).length=G.length:=by simp [nms]
 have hlb:l.length≤100000:=by
  cases hfp with
  | mk _ _ _ h1 _=>exact h1
 have hfk:∀(i:Nat) (p:Part),l[i]? = some p→Few p:=by
  cases hfp with
  | mk _ _ _ _ h1=>exact h1
 have hnk:∀(i:Nat) (p:Part),l[i]? = some p→named (nms G) p:=namedL_get hnp.2.2
 have ihk:∀(i:Nat) (p:Part),l[i]? = some p→TakeC r G items Gv Iv gc ic xb mm bk m eb em k p:=fun i p hp=>ih p (hnk i p hp) (hfk i p hp)
 have hxbn:xb<h.next:=hX.2.1
 have hmmn:mm<h.next:=hM.at'.1
 have hmx:mm≠xb:=by
  obtain ⟨es,n,hm⟩:=hM.at'.map
  intro e
  have:=hX.2.2
  rw [←e,hm] at this
  simp at this
 cases hp with
 | mk _ _ _ Av c b o css hc hlb2 hA hat hk hsp =>
 refine snd_go wf Try.func70 rfl rfl (n:=189) rfl (by kernel_rfl) rfl ?_
 intro a hn hg
 have hr:Try.f70.results.toList=[.cell 6 75]:=rfl
 have g0:=hg 0
 have g1:=hg 1
 have g2:=hg 2
 clear hg
 simp only [List.getElem?_cons_zero,List.getElem?_cons_succ] at g0 g1 g2
 have hPn:=own_new hb 52 [.string d,.string t,.slice Av l.length c]
 have hx0:=Ext.new h (CObj.cells ⟨[.string d,.string t,.slice Av l.length c],52,0,0,false⟩)
 have hb0:=Nat.le_succ_of_le (m:=h.next) hb
 have hZ:=own_new (h:=h.newH (CObj.cells ⟨[.string d,.string t,.slice Av l.length c],52,0,0,false⟩)) hb0 75 [.bool false,.int .i64 0,.slice none 0 0]
 have hP:=own_newH hPn (CObj.cells ⟨[.bool false,.int .i64 0,.slice none 0 0],75,0,0,false⟩)
 have hx:=hx0.trans (Ext.new _ (CObj.cells ⟨[.bool false,.int .i64 0,.slice none 0 0],75,0,0,false⟩))
 simp -dsimp only [go_sem,g0,g1,g2,next_newH,load_own hP]
 simp only [next_newH] at hZ
 generalize (h.newH (CObj.cells ⟨[.string d,.string t,.slice Av l.length c],52,0,0,false⟩)).newH (CObj.cells ⟨[.bool false,.int .i64 0,.slice none 0 0],75,0,0,false⟩)=h2 at hP hZ hx ⊢
 have hrom2:h2.rom=r:=hx.rom.trans hrom
 have hb2:h2.base≤h2.next:=by rw [hx.base];exact Nat.le_trans hb hx.next
 have hX2:=own_ext hx hX
 have hM2:MemoOk G items h2 B F far mm memo:=hM.extS (S:=fun _=>False) hx.toS (fun _ _ _ _ c=>c) (fun c=>c) (Nat.le_refl _)
 have hzn:h.next≤h.next+1:=Nat.le_succ _
 have hpz:h.next≠h.next+1:=by omega
 clear hPn hx0
 have put:∀{h5:Hp} {zc:List Value} {x y z:Value},h5.own (h.next+1) 75 zc→zc.length=3→[x,y,z].all oneCell=true→h5.stores ⟨h.next+1,0,none⟩ [x,y,z]=some (h5.put (h.next+1) (.cells ⟨[x,y,z],75,0,0,false⟩))∧(h5.put (h.next+1) (.cells ⟨[x,y,z],75,0,0,false⟩)).loads ⟨h.next+1,0,none⟩ 3=some [x,y,z]:=by
  intro h5 zc x y z h1 h3 h2
  refine ⟨stores_own h1 h2 (by
   match zc,h3 with
   | [x,y,z],_=>rfl) (by simp),by rw [loads_own (own_put_same h1 [x,y,z])];rfl⟩
 have z3:([.bool false,.int .i64 0,.slice none 0 0]:List Value).length=3:=rfl
 by_cases c1:d.data.toList=[105,115]
 ·have k1:decide (d.data.toList=[105,115])=true:=decide_eq_true c1
  rw [run_one c1] at hrun
  injection hrun with hrun
  subst hrun
  obtain ⟨v5,h5,hs5,hv5⟩:=one_c (q:=(some t)) RI h2 hrom2 hb2 (xb:=xb) (bk:=bk) (mm:=mm) (far:=far) hX2 q hq (Nat.le_trans hfar RI.hb) (TestAt.is h.next d t (.slice Av l.length c) hP)
  obtain ⟨hTP,x,y,z,rfl,hcl⟩:=one_take hx hBnd hX2 hM2 hmx hv5
  have hZ5:=own_extS hv5.1 hZ (by show h.next+1≠xb;omega)
  obtain ⟨p1,p2⟩:=put (x:=x) (y:=y) (z:=z) hZ5 z3 hcl
  simp -dsimp only [go_sem,g0,g2,k1]
  refine ⟨_,h5,hs5,?_⟩
  simp -dsimp only [go_sem,p1,p2,hr]
  exact hTP.put hzn hZ5 (by decide) hxbn hmmn
 have k1:decide (d.data.toList=[105,115])=false:=decide_eq_false c1
 by_cases c2:d.data.toList=[97,110,121]
 ·have k2:decide (d.data.toList=[97,110,121])=true:=decide_eq_true c2
  rw [run_any c2] at hrun
  injection hrun with hrun
  subst hrun
  obtain ⟨v5,h5,hs5,hv5⟩:=one_c (q:=none) RI h2 hrom2 hb2 (xb:=xb) (bk:=bk) (mm:=mm) (far:=far) hX2 q hq (Nat.le_trans hfar RI.hb) (TestAt.any)
  obtain ⟨hTP,x,y,z,rfl,hcl⟩:=one_take hx hBnd hX2 hM2 hmx hv5
  have hZ5:=own_extS hv5.1 hZ (by show h.next+1≠xb;omega)
  obtain ⟨p1,p2⟩:=put (x:=x) (y:=y) (z:=z) hZ5 z3 hcl
  simp -dsimp only [go_sem,g0,g2,k1,k2]
  refine ⟨_,h5,hs5,?_⟩
  simp -dsimp only [go_sem,p1,p2,hr]
  exact hTP.put hzn hZ5 (by decide) hxbn hmmn
 have k2:decide (d.data.toList=[97,110,121])=false:=decide_eq_false c2
 by_cases c3:d.data.toList=[114,117,108,101]
 ·have k3:decide (d.data.toList=[114,117,108,101])=true:=decide_eq_true c3
  have hidx:idxOf (nms G) t<(nms G).length:=hnp.1 c3
  rw [hGl] at hidx
  have hgi:G[idxOf (nms G) t]? = some G[idxOf (nms G) t]:=List.getElem?_eq_getElem hidx
  have hbo:bodyOf G t=G[idxOf (nms G) t].body:=by unfold bodyOf;rw [hgi]
  rw [run_rule c3,hbo,Option.map_eq_some_iff] at hrun
  obtain ⟨ob,hrb,rfl⟩:=hrun
  have hnb:ob.2.1≤50000:=by
   have:(ruleO t ob).2.1=ob.2.1+1:=rfl
   omega
  simp -dsimp only [go_sem,k1,k2]
  refine Wcond_in (fun _ => ?_) (fun e=>by rw [k3] at e;cases e)
  refine take_rule R RI hgi (ih _ (hnm _ _ hgi) (hfw _ _ hgi)) hrom hb hBnd hX hM hBk hmne hfar hq hrb hnb (zb:=h.next+1) (pb:=h.next) (d:=d) (kv0:=.slice Av l.length c) (by simp -dsimp only [go_sem,hn]) hx z3 hP hZ (Nat.le_refl _) hzn (by simp -dsimp only [go_sem,g0]) (by simp -dsimp only [go_sem,g2]) (by simp -dsimp only [go_sem]) (by simp -dsimp only [go_sem]) (fun a1 h1 x y z hTP hz1 e6 => ?_)
  simp -dsimp only [go_sem,e6,loads_own hz1,hr]
  exact hTP
 have k3:decide (d.data.toList=[114,117,108,101])=false:=decide_eq_false c3
 have unplus:∀{t':Task},(run G items k t').map plus1=some o9→∃o8,run G items k t'=some o8∧o8.2.1≤50000∧o9.1=o8.1∧o9.2.2=o8.2.2:=by
  intro t' e
  rw [Option.map_eq_some_iff] at e
  obtain ⟨o8,e1,rfl⟩:=e
  refine ⟨o8,e1,?_,rfl,rfl⟩
  simp only [plus1] at ho9
  omega
 have retag:∀{o8:Outc} {v:Value} {h1:Hp},o9.1=o8.1→o9.2.2=o8.2.2→TakeP G items B F bk Iv ic mm xb o8 far h v h1→TakeP G items B F bk Iv ic mm xb o9 far h v h1:=by
  intro o8 v h1 e1 e2 kk
  obtain ⟨memo',a1,a2,a3,a4⟩:=kk
  exact ⟨memo',a1,by rw [e2];exact a2,by rw [e2];exact a3,by rw [e1];exact a4⟩
 by_cases c4:d.data.toList=[115,101,113]
 ·have k4:decide (d.data.toList=[115,101,113])=true:=decide_eq_true c4
  rw [run_sq c4] at hrun
  obtain ⟨o8,hr8,hn8,e81,e82⟩:=unplus hrun
  obtain ⟨vS,vO,vX,vB,vR⟩:=var_ok hb2 (e:=75) (c0:=[.bool false,.int .i64 0,.slice none 0 0]) (c1:=[.bool true,.int .i64 (q:Int),.slice none 0 0]) rfl rfl (by simp)
  have hPv:=own_ext vX hP
  have hZv:=own_ext vX hZ
  simp -dsimp only [go_sem,g0,g2,k1,k2,k3,k4,vS,load_own hPv]
  have hon:h.next≤h2.next:=hx.next
  have hzo:h.next+1≠h2.next:=Nat.ne_of_lt hZ.2.1
  refine take_seq (l:=l) (c:=c) (d:=d) (t:=t) (pb:=h.next) (zb:=h.next+1) (ob:=h2.next) ihk hlb hA hat hk hrom hb hBnd hX hM hBk hmne hfar hq hr8 hn8 (by simp -dsimp only [go_sem,hn]) (hx.trans vX) z3 hPv hZv vO (Nat.le_refl _) hzn hon hzo (by simp -dsimp only [go_sem,g0]) (by simp -dsimp only [go_sem]) (by simp -dsimp only [go_sem]) (by simp -dsimp only [go_sem]) (by simp -dsimp only [go_sem]) (by simp -dsimp only [go_sem]) (fun a1 h1 x y z hTP hz1 e6 => ?_) (fun a1 h1 x y z hTP ho1 hz1 e6 e10 => ?_)
  ·simp -dsimp only [go_sem,e6,loads_own hz1,hr]
   exact retag e81 e82 hTP
  ·have hcl:[x,y,z].all oneCell=true:=by
    obtain ⟨_,_,_,_,e⟩:=hTP
    obtain ⟨e9,A9,n9,c9,e10,_⟩:=e.shape
    injection e10 with e10
    have:=congrArg Array.toList e10
    simp only [List.cons.injEq] at this
    obtain ⟨rfl,rfl,rfl,_⟩:=this
    rfl
   obtain ⟨p1,p2⟩:=put (x:=x) (y:=y) (z:=z) hz1 z3 hcl
   simp -dsimp only [go_sem,e6,e10,loads_own ho1,p1,p2,hr]
   exact retag e81 e82 (hTP.put hzn hz1 (by decide) hxbn hmmn)
 have k4:decide (d.data.toList=[115,101,113])=false:=decide_eq_false c4
 by_cases c5:d.data.toList=[111,114]
 ·have k5:decide (d.data.toList=[111,114])=true:=decide_eq_true c5
  rw [run_or c5] at hrun
  obtain ⟨o8,hr8,hn8,e81,e82⟩:=unplus hrun
  simp -dsimp only [go_sem,g0,g2,k1,k2,k3,k4,k5,load_own hP]
  refine take_or (l:=l) (c:=c) (d:=d) (t:=t) (zb:=h.next+1) ihk hlb hA hat hk hrom hb hBnd hX hM hBk hmne hfar hq hr8 hn8 (by simp -dsimp only [go_sem,hn]) hx z3 hZ hzn (by simp -dsimp only [go_sem,g0]) (by simp -dsimp only [go_sem,g2]) (by simp -dsimp only [go_sem]) (by simp -dsimp only [go_sem]) (by simp -dsimp only [go_sem]) (by simp -dsimp only [go_sem]) (fun a1 h1 x y z hTP hz1 e6 => ?_) (fun a1 h1 hTP hz1 e6 => ?_)
  ·simp -dsimp only [go_sem,e6,loads_own hz1,hr]
   exact retag e81 e82 hTP
  ·obtain ⟨p1,p2⟩:=put (x:=.bool false) (y:=.int .i64 0) (z:=.slice none 0 0) hz1 z3 rfl
   simp -dsimp only [go_sem,e6,p1,p2,hr]
   exact retag e81 e82 (hTP.put hzn hz1 (by decide) hxbn hmmn)
 have k5:decide (d.data.toList=[111,114])=false:=decide_eq_false c5
 have one1:oneKid d→∃x,l=[x]∧named (nms G) x∧Few x∧RoPart r x (css 0)∧roAt r b o (css 0):=by
  intro ho
  have hl1:l.length=1:=hnp.2.1 ho
  match l,hl1,hnk,hfk,hk,hat with
  | [x],_,hnk,hfk,hk,hat=>exact ⟨x,rfl,hnk 0 x rfl,hfk 0 x rfl,hk 0 x rfl,by have:=hat 0 x rfl;simpa using this⟩
 have hix0:l≠[]→indexAddr' Try.prog 50 (.slice Av l.length c) (.int .i64 0)=some (.pointer (some ⟨b,o,none⟩)):=by
  intro hl
  rw [hA hl]
  have:=ia50 (b:=b) (o:=o) (c:=c) (n:=l.length) (i:=0) (List.length_pos_iff.2 hl)
  simpa using this
 by_cases c6:d.data.toList=[109,97,110,121]
 ·have k6:decide (d.data.toList=[109,97,110,121])=true:=decide_eq_true c6
  obtain ⟨x,rfl,hnx,hfx,hkx,hatx⟩:=one1 (.inl c6)
  have hAv:=hA (by simp)
  subst hAv
  rw [run_mn c6] at hrun
  obtain ⟨o8,hr8,hn8,e81,e82⟩:=unplus hrun
  obtain ⟨vS,vO,vX,vB,vR⟩:=var_ok hb2 (e:=31) (c0:=[.string ⟨#[]⟩,.string ⟨#[]⟩,.slice none 0 0]) (c1:=[.string ⟨#[109,97,110,121]⟩,.string ⟨#[]⟩,.slice none 0 0]) rfl rfl (by simp)
  have hPv:=own_ext vX hP
  have hZv:=own_ext vX hZ
  simp -dsimp only [go_sem,g0,g2,k1,k2,k3,k4,k5,k6,vS]
  refine take_many (x:=x) (c:=c) (d:=d) (t:=t) (pb:=h.next) (zb:=h.next+1) (tb:=h2.next) (ih x hnx hfx) hatx hkx hrom hb hBnd hX hM hBk hmne hfar hq hr8 hn8 (by simp -dsimp only [go_sem,hn]) (hx.trans vX) z3 hPv hZv vO (Nat.le_refl _) hzn hx.next (by simp -dsimp only [go_sem,g0]) (by simp -dsimp only [go_sem,g2]) (by simp -dsimp only [go_sem]) (by simp -dsimp only [go_sem]) (by simp -dsimp only [go_sem]) (fun a1 h1 x y z hTP hz1 e6 => ?_)
  simp -dsimp only [go_sem,e6,loads_own hz1,hr]
  exact retag e81 e82 hTP
 have k6:decide (d.data.toList=[109,97,110,121])=false:=decide_eq_false c6
 by_cases c7:d.data.toList=[111,112,116]
 ·have k7:decide (d.data.toList=[111,112,116])=true:=decide_eq_true c7
  obtain ⟨x,rfl,hnx,hfx,hkx,hatx⟩:=one1 (.inr (.inl c7))
  have hAv:=hA (by simp)
  subst hAv
  obtain ⟨Av1,c1',hcs⟩:=hkx.shape
  rw [hcs] at hkx hatx
  rw [run_opt c7,Option.map_eq_some_iff] at hrun
  obtain ⟨o8,hr8,rfl⟩:=hrun
  have hn8:o8.2.1≤50000:=by
   have:(optO q o8).2.1=o8.2.1+1:=rfl
   omega
  have hix:indexAddr' Try.prog 50 (.slice (some ⟨b,o,none⟩) 1 c) (.int .i64 0)=some (.pointer (some ⟨b,o,none⟩)):=hix0 (by simp)
  obtain ⟨v5,h5,hs5,memo5,hx5,hX5,hM5,hV5⟩:=ih x hnx hfx B F far q h2 _ memo o8 (hBnd.mono (hx.toS (S:=Two xb mm))) hfar hq hrom2 hb2 hX2 hM2 (hBk.ext hx) hkx hr8 hn8
  simp -dsimp only [go_sem,g0,g2,k1,k2,k3,k4,k5,k6,k7,load_own hP,hix,loads_ro (n:=3) hrom2 hatx rfl]
  refine ⟨_,h5,hs5,?_⟩
  have hx05:ExtS (Two xb mm) h h5:=hx.toS.trans hx5
  have hZ5:=own_extS hx5 hZ (by rintro (c|c)<;>omega)
  have hb5:h5.base≤h5.next:=ext_bn hx05 hb
  have hf9:(optO q o8).2.2=o8.2.2:=rfl
  obtain ⟨e5,A5,n5,c5,rfl,hsp5⟩:=hV5.shape
  obtain ⟨wS,wO,wX,wB,wR⟩:=var_ok hb5 (e:=75) (c0:=[.bool false,.int .i64 0,.slice none 0 0]) (c1:=[.bool o8.1.isSome,.int .i64 e5,.slice A5 n5 c5]) rfl rfl (by simp)
  have hZ6:=own_ext wX hZ5
  have hTP0:TakeP G items B F bk Iv ic mm xb o8 far h (.agg #[.bool o8.1.isSome,.int .i64 e5,.slice A5 n5 c5]) (h5.var 75 [.bool false,.int .i64 0,.slice none 0 0] [.bool o8.1.isSome,.int .i64 e5,.slice A5 n5 c5]) :=
   ⟨memo5,hx05.trans wX.toS,own_ext wX hX5,hM5.extS (S:=fun _=>False) wX.toS (fun _ _ _ _ c=>c) (fun c=>c) (Nat.le_refl _),hV5.keep (keepsE wX).any⟩
  cases ho:o8.1 with
  | some y =>
    obtain ⟨ks,e⟩:=y
    obtain ⟨p1,p2⟩:=put (x:=.bool o8.1.isSome) (y:=.int .i64 e5) (z:=.slice A5 n5 c5) hZ6 z3 rfl
    have hq1:(optO q o8).1=o8.1:=by unfold optO;rw [ho]
    rw [ho] at wS wO p1 p2 hTP0 hZ6
    simp -dsimp only [go_sem,Option.isSome_some] at wS wO p1 p2 hTP0 hZ6
    simp -dsimp only [go_sem,Option.isSome_some,wS,load_own wO,loads_own wO,p1,p2,hr]
    have:=retag hq1 rfl hTP0
    exact this.put hzn hZ6 (by decide) hxbn hmmn
  | none =>
    obtain ⟨p1,p2⟩:=put (x:=.bool true) (y:=.int .i64 (q:Int)) (z:=.slice none 0 0) hZ6 z3 rfl
    have hq1:(optO q o8).1=some ([],q):=by unfold optO;rw [ho]
    rw [ho] at wS wO p1 p2 hTP0 hZ6
    simp -dsimp only [go_sem,Option.isSome_none] at wS wO p1 p2 hTP0 hZ6
    simp -dsimp only [go_sem,Option.isSome_none,wS,load_own wO,g2,p1,p2,hr]
    refine TakeP.put ?_ hzn hZ6 (by decide) hxbn hmmn
    obtain ⟨memo',a1,a2,a3,a4⟩:=hTP0
    exact ⟨memo',a1,a2,a3,by rw [hq1];exact ⟨_,rfl,KidsAt.nil⟩⟩
 have k7:decide (d.data.toList=[111,112,116])=false:=decide_eq_false c7
 by_cases c8:d.data.toList=[110,111,116]
 ·have k8:decide (d.data.toList=[110,111,116])=true:=decide_eq_true c8
  obtain ⟨x,rfl,hnx,hfx,hkx,hatx⟩:=one1 (.inr (.inr c8))
  have hAv:=hA (by simp)
  subst hAv
  obtain ⟨Av1,c1',hcs⟩:=hkx.shape
  rw [hcs] at hkx hatx
  rw [run_not c8,Option.map_eq_some_iff] at hrun
  obtain ⟨o8,hr8,rfl⟩:=hrun
  have hn8:o8.2.1≤50000:=by
   have:(notO q o8).2.1=o8.2.1+1:=rfl
   omega
  have hix:indexAddr' Try.prog 50 (.slice (some ⟨b,o,none⟩) 1 c) (.int .i64 0)=some (.pointer (some ⟨b,o,none⟩)):=hix0 (by simp)
  obtain ⟨v5,h5,hs5,memo5,hx5,hX5,hM5,hV5⟩:=ih x hnx hfx B F far q h2 _ memo o8 (hBnd.mono (hx.toS (S:=Two xb mm))) hfar hq hrom2 hb2 hX2 hM2 (hBk.ext hx) hkx hr8 hn8
  simp -dsimp only [go_sem,g0,g2,k1,k2,k3,k4,k5,k6,k7,k8,load_own hP,hix,loads_ro (n:=3) hrom2 hatx rfl]
  refine ⟨_,h5,hs5,?_⟩
  have hx05:ExtS (Two xb mm) h h5:=hx.toS.trans hx5
  have hZ5:=own_extS hx5 hZ (by rintro (c|c)<;>omega)
  have hb5:h5.base≤h5.next:=ext_bn hx05 hb
  have hf9:(notO q o8).2.2=o8.2.2:=rfl
  obtain ⟨e5,A5,n5,c5,rfl,hsp5⟩:=hV5.shape
  cases ho:o8.1 with
  | some y =>
    obtain ⟨p1,p2⟩:=put (x:=.bool false) (y:=.int .i64 0) (z:=.slice none 0 0) hZ5 z3 rfl
    have hq1:(notO q o8).1=none:=by unfold notO;rw [ho]
    simp -dsimp only [go_sem,Option.isSome_some,Try.underlying75,Try.underlying4,part,List.getElem?_cons_zero,p1,p2,hr]
    refine TakeP.put ?_ hzn hZ5 (by decide) hxbn hmmn
    exact ⟨memo5,hx05,hX5,hM5,by rw [hq1];rfl⟩
  | none =>
    obtain ⟨p1,p2⟩:=put (x:=.bool true) (y:=.int .i64 (q:Int)) (z:=.slice none 0 0) hZ5 z3 rfl
    have hq1:(notO q o8).1=some ([],q):=by unfold notO;rw [ho]
    simp -dsimp only [go_sem,Option.isSome_none,Try.underlying75,Try.underlying4,part,List.getElem?_cons_zero,g2,p1,p2,hr]
    refine TakeP.put ?_ hzn hZ5 (by decide) hxbn hmmn
    exact ⟨memo5,hx05,hX5,hM5,by rw [hq1];exact ⟨_,rfl,KidsAt.nil⟩⟩
 have k8:decide (d.data.toList=[110,111,116])=false:=decide_eq_false c8
 rw [run_else c1 c2 c3 c4 c5 c6 c7 c8] at hrun
 injection hrun with hrun
 subst hrun
 obtain ⟨p1,p2⟩:=put (x:=.bool true) (y:=.int .i64 (q:Int)) (z:=.slice none 0 0) hZ z3 rfl
 simp -dsimp only [go_sem,g2,k1,k2,k3,k4,k5,k6,k7,k8,p1,p2,hr]
 refine TakeP.put ?_ hzn hZ (by decide) hxbn hmmn
 exact ⟨memo,hx.toS,by simpa using hX2,by simpa using hM2,⟨_,rfl,KidsAt.nil⟩⟩
end Go.Ev.G24
end
section
namespace Go.Ev.G24
open Go.RowKit Go.Proofs
variable {r:Ro} {G:List Rule} {items:List ByteArray} {Gv Iv:Option Addr} {gc ic xb:Nat}
theorem RefL.preS {t:Task} {far:Nat} {s lb:Int} {h h2:Hp} {v:Value} {h1:Hp} (x:ExtS (Only xb) h h2) (k:RefL G items Gv Iv gc ic xb t far s lb h2 v h1):RefL G items Gv Iv gc ic xb t far s lb h v h1:=by
 obtain ⟨far',s',a1,a2,a3,a4⟩:=k
 refine ⟨far',s',x.trans a1,a2,a3,?_⟩
 rcases a4 with ⟨k,o,b1,b2,b3,b4,b5⟩|b
 ·exact .inl ⟨k,o,b1,b2,b3,b4,b5.more (fun b _ c=>Nat.lt_of_lt_of_le c x.next) (fun f c=>.inl ⟨c.1,Nat.lt_of_lt_of_le c.2 x.nfam⟩)⟩
 ·exact .inr b
theorem map_some {o:Outc} {f:Outc→Outc} {x:Option Outc} (h:x=some o):x.map f=some (f o):=by rw [h];rfl
theorem low_ge {s:Int} (h1:1≤s):∀z,0≤z→z≤s - 1→low s+100000≤low z:=by
 intro z hz hz2
 unfold low
 rw [if_neg (by omega),if_neg (by omega)]
 omega
set_option maxHeartbeats 16000000 in
set_option maxRecDepth 10000 in
theorem ref_pos {gb go ib io:Nat} {gcss:Nat→List Value} (R:RoRules r G Gv gc gb go gcss) (RI:RoItems r items Iv ic ib io) (hnm:∀(i:Nat) (x:Rule),G[i]? = some x→named (nms G) x.body) (hfw:∀(i:Nat) (x:Rule),G[i]? = some x→Few x.body)
  {k:Nat} (ih:∀p,named (nms G) p→Few p→RefC r G items Gv Iv gc ic xb k p) {p:Part} (hnp:named (nms G) p) (hfp:Few p) (s:Int) (hs:1≤s) (far q:Nat) (h:Hp) (cs:List Value) (hsk:s<((k+1:Nat):Int)) (hs2:s≤50000) (hfar:far≤items.length) (hq:q≤items.length) (hrom:h.rom=r) (hb:h.base≤h.next)
  (hX:h.own xb 71 (pRow G items Gv Iv gc ic far s)) (hp:RoPart r p cs):∃v h1,Snd Try.prog 40 [.pointer (some ⟨xb,0,none⟩),.agg cs.toArray,.int .i64 (q:Int)] h v h1∧RefL G items Gv Iv gc ic xb (.part p q) far s (low s) h v h1:=by
 obtain ⟨d,t,l⟩:=p
 have hGl:(nms G).length=G.length:=by simp [nms]
 have hlb:l.length≤100000:=by
  cases hfp with
  | mk _ _ _ h1 _=>exact h1
 have hfk:∀(i:Nat) (p:Part),l[i]? = some p→Few p:=by
  cases hfp with
  | mk _ _ _ _ h1=>exact h1
 have hnk:∀(i:Nat) (p:Part),l[i]? = some p→named (nms G) p:=namedL_get hnp.2.2
 have hlow:=low_ge hs
 have hs1k:s - 1<(k:Int):=by omega
 have hs10:0≤s - 1:=by omega
 have hlast:low s ≤ -1:=by unfold low;split<;>omega
 have hlow2 : -1000000000000≤low s:=by unfold low;split<;>omega
 cases hp with
 | mk _ _ _ Av c b o css hc hlb2 hA hat hk hsp =>
 refine snd_go wf Try.func40 rfl rfl (n:=241) rfl (by kernel_rfl) rfl ?_
 intro a hn hg
 have hr:Try.f40.results.toList=[.tmp 6,.tmp 7,.tmp 8]:=rfl
 have g0:=hg 0
 have g1:=hg 1
 have g2:=hg 2
 clear hg
 simp only [List.getElem?_cons_zero,List.getElem?_cons_succ] at g0 g1 g2
 have hP:=own_new hb 52 [.string d,.string t,.slice Av l.length c]
 have hx0:=Ext.new h (CObj.cells ⟨[.string d,.string t,.slice Av l.length c],52,0,0,false⟩)
 have hX0:=own_ext hx0 hX
 unfold pRow at hX0
 have hst:=stores_own hX0 (o:=3) (vs:=[.int .i64 (s - 1)]) (c1:=[.slice Gv G.length gc,.slice Iv items.length ic,.int .i64 (far:Int),.int .i64 (s - 1)]) rfl rfl (by simp)
 have hX1:=own_put_same hX0 [.slice Gv G.length gc,.slice Iv items.length ic,.int .i64 (far:Int),.int .i64 (s - 1)]
 have hxn:h.next≠xb:=Nat.ne_of_gt hX.2.1
 have hP1:=own_put hP hxn (.cells ⟨[.slice Gv G.length gc,.slice Iv items.length ic,.int .i64 (far:Int),.int .i64 (s - 1)],71,0,0,false⟩)
 have hx1:=(hx0.toS (S:=Only xb)).put (b:=xb) (.inr rfl) (.cells ⟨[.slice Gv G.length gc,.slice Iv items.length ic,.int .i64 (far:Int),.int .i64 (s - 1)],71,0,0,false⟩)
 have hlt0:decide (s - 1<0)=false:=decide_eq_false (by omega)
 simp -dsimp only [go_sem,g0,g1,g2,load_own hX0,wrap_pred (by omega : -1000000000000≤s) (by omega:s≤1000000),hst,load_own hX1,hlt0]
 generalize ((h.newH (CObj.cells ⟨[.string d,.string t,.slice Av l.length c],52,0,0,false⟩)).put xb (.cells ⟨[.slice Gv G.length gc,.slice Iv items.length ic,.int .i64 (far:Int),.int .i64 (s - 1)],71,0,0,false⟩))=h2 at hX1 hP1 hx1 ⊢
 have hrom2:h2.rom=r:=ext_rom hx1 hrom
 have hb2:h2.base≤h2.next:=ext_bn hx1 hb
 have hXp:h2.own xb 71 (pRow G items Gv Iv gc ic far (s - 1)):=hX1
 clear hst hX0 hx0 hP
 have hix0:l≠[]→indexAddr' Try.prog 50 (.slice Av l.length c) (.int .i64 0)=some (.pointer (some ⟨b,o,none⟩)):=by
  intro hl
  rw [hA hl]
  have:=ia50 (b:=b) (o:=o) (c:=c) (n:=l.length) (i:=0) (List.length_pos_iff.2 hl)
  simpa using this
 by_cases c1:d.data.toList=[105,115]
 ·have k1:decide (d.data.toList=[105,115])=true:=decide_eq_true c1
  have hfq:max far q≤items.length:=Nat.max_le.2 ⟨hfar,hq⟩
  have hst7:=stores_own hX1 (o:=2) (vs:=[.int .i64 ((max far q:Nat):Int)]) (c1:=[.slice Gv G.length gc,.slice Iv items.length ic,.int .i64 ((max far q:Nat):Int),.int .i64 (s - 1)]) rfl rfl (by simp)
  have hX7:=own_put_same hX1 [.slice Gv G.length gc,.slice Iv items.length ic,.int .i64 ((max far q:Nat):Int),.int .i64 (s - 1)]
  have hP7:=own_put hP1 hxn (.cells ⟨[.slice Gv G.length gc,.slice Iv items.length ic,.int .i64 ((max far q:Nat):Int),.int .i64 (s - 1)],71,0,0,false⟩)
  have hx7:=hx1.put (b:=xb) (.inr rfl) (.cells ⟨[.slice Gv G.length gc,.slice Iv items.length ic,.int .i64 ((max far q:Nat):Int),.int .i64 (s - 1)],71,0,0,false⟩)
  simp -dsimp only [go_sem,undef',g0,g1,g2,load_own hP1,load_own hX1,max_int,k1,hst7]
  generalize (h2.put xb (.cells ⟨[.slice Gv G.length gc,.slice Iv items.length ic,.int .i64 ((max far q:Nat):Int),.int .i64 (s - 1)],71,0,0,false⟩))=h7 at hX7 hP7 hx7 ⊢
  have hrom7:h7.rom=r:=ext_rom hx7 hrom
  have hb7:h7.base≤h7.next:=ext_bn hx7 hb
  refine Dw_text (n:=241) [[],[],[1],[1,2],[1,2,3],[1,2,3,4],[0,1,2,3,4,5],[0,1,2,3,4,5,6],[0,1,2,3,4,5,6,7],[0,1,2,3,4,5,6,7,8],[0,1,2,3,4,5,6,7,8,9],[0,1,2,3,4,5,6,7,8,9,10],[0,1,2,3,4,5,6,7,8,9,10,11],[0,1,2,3,4,5,6,7,8,9,10,11,12],[0,1,2,3,4,5,6,7,8,9,10,11,12,13],[0,1,2,3,4,5,6,7,8,9,10,11,12,13,14],[0,1,2,3,4,5,6,7,8,9,10,11],[0,1,2,3,4,5,6,7,8,9,10,11,12,13,14,15,16],[0,1,2,3,4,5,6,7,8,9,10,11,12,13,14,15,16,17],[0,1,2,3,4,5,6,7,8,9,10,11],[0,1,2,3,4,5,6,7,8,9,10,11,19],[0,1,2,3,4,5,6,7,8,9,10,11,12,13,14,15,16,17,18,19,20],[0,1,2,3,4,5,6,7,8,9,10,11,12,13,14,15,16,17,18,19,20,21],[0,1,2,3,4,5,6,7,8,9,10,11,12,13,14,15,16,17,18,19,20,21,22]] (by simp -dsimp only [go_sem,hn]) (by kernel_rfl) ?_
  by_cases hlt:q<items.length
  rotate_left
  ·have k0:decide ((q:Int)<(items.length:Int))=false:=decide_eq_false (by omega)
   simp -dsimp only [go_sem,undef',g0,g1,g2,load_own hX7,load_own hP7,sameN_sliceA RI.hs,k0,hr]
   refine ⟨max far q,s - 1,hx7,hX7,hfq,.inl ⟨1,_,run_one c1,?_,hs10,?_,?_⟩⟩
   ·rw [one_pos];rfl
   ·unfold oneO;rw [List.getElem?_eq_none (by omega)]
   ·unfold oneO;rw [List.getElem?_eq_none (by omega)];exact ⟨_,_,_,_,rfl,rfl⟩
  have k0:decide ((q:Int)<(items.length:Int))=true:=decide_eq_true (by omega)
  have hps:items[q]? = some items[q]:=List.getElem?_eq_getElem hlt
  have hIv:=RI.hA (ne_nil hlt)
  subst hIv
  have hld:h7.load ⟨ib,io+q,none⟩=some (.string items[q]):=by
   have:=load_ro hrom7 (RI.hat q _ hps) (j:=0) (v:=.string items[q]) rfl
   simpa using this
  have hw:=wrap64_succ hlt (Nat.le_trans RI.hb (by decide))
  have hrow:=own_new hb7 31 [.string ⟨#[105,116,101,109]⟩,.string items[q],.slice none 0 0]
  have hxr:=Ext.new h7 (CObj.cells ⟨[.string ⟨#[105,116,101,109]⟩,.string items[q],.slice none 0 0],31,0,0,false⟩)
  have hX8:=own_ext hxr hX7
  have fin:testB (some t) items[q]=true→RefL G items Gv (some ⟨ib,io,none⟩) gc ic xb (.part ⟨d,t,l⟩ q) far s (low s) h (.tuple #[.slice (some ⟨h7.next,0,none⟩) 1 1,.int .i64 ((q+1:Nat):Int),.bool true]) (h7.newH (CObj.cells ⟨[.string ⟨#[105,116,101,109]⟩,.string items[q],.slice none 0 0],31,0,0,false⟩)):=by
   intro ht
   refine ⟨max far q,s - 1,hx7.trans hxr.toS,hX8,hfq,.inl ⟨1,_,run_one c1,?_,hs10,?_,?_⟩⟩
   ·rw [one_pos];rfl
   ·unfold oneO;rw [hps];simp only [ht,if_true]
   ·unfold oneO;rw [hps];simp only [ht,if_true]
    exact ⟨_,rfl,kids_new hrow (by have:=hx7.next;omega) (fun c=>c.1 rfl) KidsAt.nil⟩
  have kany:decide (d.data.toList=[97,110,121])=false:=decide_eq_false (by rw [c1];decide)
  by_cases hte:items[q].data.toList=t.data.toList
  ·simp -dsimp only [go_sem,undef',g0,g1,g2,load_own hX7,load_own hP7,sameN_sliceA RI.hs,k0,kany,ia25 hlt,hld,decide_eq_true hte,hw,bs29 1 (by decide),repeatN,hr]
   exact fin (decide_eq_true hte)
  ·simp -dsimp only [go_sem,undef',g0,g1,g2,load_own hX7,load_own hP7,sameN_sliceA RI.hs,k0,kany,ia25 hlt,hld,decide_eq_false hte,hr]
   refine ⟨max far q,s - 1,hx7,hX7,hfq,.inl ⟨1,_,run_one c1,?_,hs10,?_,?_⟩⟩
   ·rw [one_pos];rfl
   ·have:testB (some t) items[q]=false:=decide_eq_false hte
    unfold oneO;rw [hps];simp only [this,if_false,Bool.false_eq_true]
   ·have:testB (some t) items[q]=false:=decide_eq_false hte
    unfold oneO;rw [hps];simp only [this,if_false,Bool.false_eq_true]
    exact ⟨_,_,_,_,rfl,rfl⟩
 have k1:decide (d.data.toList=[105,115])=false:=decide_eq_false c1
 by_cases c2:d.data.toList=[97,110,121]
 ·have k2:decide (d.data.toList=[97,110,121])=true:=decide_eq_true c2
  have hfq:max far q≤items.length:=Nat.max_le.2 ⟨hfar,hq⟩
  have hst7:=stores_own hX1 (o:=2) (vs:=[.int .i64 ((max far q:Nat):Int)]) (c1:=[.slice Gv G.length gc,.slice Iv items.length ic,.int .i64 ((max far q:Nat):Int),.int .i64 (s - 1)]) rfl rfl (by simp)
  have hX7:=own_put_same hX1 [.slice Gv G.length gc,.slice Iv items.length ic,.int .i64 ((max far q:Nat):Int),.int .i64 (s - 1)]
  have hP7:=own_put hP1 hxn (.cells ⟨[.slice Gv G.length gc,.slice Iv items.length ic,.int .i64 ((max far q:Nat):Int),.int .i64 (s - 1)],71,0,0,false⟩)
  have hx7:=hx1.put (b:=xb) (.inr rfl) (.cells ⟨[.slice Gv G.length gc,.slice Iv items.length ic,.int .i64 ((max far q:Nat):Int),.int .i64 (s - 1)],71,0,0,false⟩)
  simp -dsimp only [go_sem,undef',g0,g1,g2,load_own hP1,load_own hX1,max_int,k1,k2,hst7]
  generalize (h2.put xb (.cells ⟨[.slice Gv G.length gc,.slice Iv items.length ic,.int .i64 ((max far q:Nat):Int),.int .i64 (s - 1)],71,0,0,false⟩))=h7 at hX7 hP7 hx7 ⊢
  have hrom7:h7.rom=r:=ext_rom hx7 hrom
  have hb7:h7.base≤h7.next:=ext_bn hx7 hb
  refine Dw_text (n:=241) [[],[],[1],[1,2],[1,2,3],[1,2,3,4],[0,1,2,3,4,5],[0,1,2,3,4,5,6],[0,1,2,3,4,5,6,7],[0,1,2,3,4,5,6,7,8],[0,1,2,3,4,5,6,7,8,9],[0,1,2,3,4,5,6,7,8,9,10],[0,1,2,3,4,5,6,7,8,9,10,11],[0,1,2,3,4,5,6,7,8,9,10,11,12],[0,1,2,3,4,5,6,7,8,9,10,11,12,13],[0,1,2,3,4,5,6,7,8,9,10,11,12,13,14],[0,1,2,3,4,5,6,7,8,9,10,11],[0,1,2,3,4,5,6,7,8,9,10,11,12,13,14,15,16],[0,1,2,3,4,5,6,7,8,9,10,11,12,13,14,15,16,17],[0,1,2,3,4,5,6,7,8,9,10,11],[0,1,2,3,4,5,6,7,8,9,10,11,19],[0,1,2,3,4,5,6,7,8,9,10,11,12,13,14,15,16,17,18,19,20],[0,1,2,3,4,5,6,7,8,9,10,11,12,13,14,15,16,17,18,19,20,21],[0,1,2,3,4,5,6,7,8,9,10,11,12,13,14,15,16,17,18,19,20,21,22]] (by simp -dsimp only [go_sem,hn]) (by kernel_rfl) ?_
  by_cases hlt:q<items.length
  rotate_left
  ·have k0:decide ((q:Int)<(items.length:Int))=false:=decide_eq_false (by omega)
   simp -dsimp only [go_sem,undef',g0,g1,g2,load_own hX7,load_own hP7,sameN_sliceA RI.hs,k0,hr]
   refine ⟨max far q,s - 1,hx7,hX7,hfq,.inl ⟨1,_,run_any c2,?_,hs10,?_,?_⟩⟩
   ·rw [one_pos];rfl
   ·unfold oneO;rw [List.getElem?_eq_none (by omega)]
   ·unfold oneO;rw [List.getElem?_eq_none (by omega)];exact ⟨_,_,_,_,rfl,rfl⟩
  have k0:decide ((q:Int)<(items.length:Int))=true:=decide_eq_true (by omega)
  have hps:items[q]? = some items[q]:=List.getElem?_eq_getElem hlt
  have hIv:=RI.hA (ne_nil hlt)
  subst hIv
  have hld:h7.load ⟨ib,io+q,none⟩=some (.string items[q]):=by
   have:=load_ro hrom7 (RI.hat q _ hps) (j:=0) (v:=.string items[q]) rfl
   simpa using this
  have hw:=wrap64_succ hlt (Nat.le_trans RI.hb (by decide))
  have hrow:=own_new hb7 31 [.string ⟨#[105,116,101,109]⟩,.string items[q],.slice none 0 0]
  have hxr:=Ext.new h7 (CObj.cells ⟨[.string ⟨#[105,116,101,109]⟩,.string items[q],.slice none 0 0],31,0,0,false⟩)
  have hX8:=own_ext hxr hX7
  have fin:testB none items[q]=true→RefL G items Gv (some ⟨ib,io,none⟩) gc ic xb (.part ⟨d,t,l⟩ q) far s (low s) h (.tuple #[.slice (some ⟨h7.next,0,none⟩) 1 1,.int .i64 ((q+1:Nat):Int),.bool true]) (h7.newH (CObj.cells ⟨[.string ⟨#[105,116,101,109]⟩,.string items[q],.slice none 0 0],31,0,0,false⟩)):=by
   intro ht
   refine ⟨max far q,s - 1,hx7.trans hxr.toS,hX8,hfq,.inl ⟨1,_,run_any c2,?_,hs10,?_,?_⟩⟩
   ·rw [one_pos];rfl
   ·unfold oneO;rw [hps];simp only [ht,if_true]
   ·unfold oneO;rw [hps];simp only [ht,if_true]
    exact ⟨_,rfl,kids_new hrow (by have:=hx7.next;omega) (fun c=>c.1 rfl) KidsAt.nil⟩
  simp -dsimp only [go_sem,undef',g0,g1,g2,load_own hX7,load_own hP7,sameN_sliceA RI.hs,k0,k1,k2,ia25 hlt,hld,hw,bs29 1 (by decide),repeatN,hr]
  exact fin rfl
 have k2:decide (d.data.toList=[97,110,121])=false:=decide_eq_false c2
 by_cases c3:d.data.toList=[114,117,108,101]
 ·have k3:decide (d.data.toList=[114,117,108,101])=true:=decide_eq_true c3
  have hidx:idxOf (nms G) t<(nms G).length:=hnp.1 c3
  have hfi:findB t (nms G) 0=((idxOf (nms G) t:Nat):Int):=by rw [findB_idx,if_pos hidx,Nat.zero_add]
  rw [hGl] at hidx
  obtain ⟨_,h5,hs5,rfl,hx5⟩:=find_c R t h2 hrom2 hb2
  rw [hfi] at hs5
  have hgi:G[idxOf (nms G) t]? = some G[idxOf (nms G) t]:=List.getElem?_eq_getElem hidx
  have hbo:bodyOf G t=G[idxOf (nms G) t].body:=by unfold bodyOf;rw [hgi]
  obtain ⟨Av1,c1',hcs⟩:=(R.hk _ _ hgi).shape
  have hat':=R.hat _ _ hgi
  have hkid:=R.hk _ _ hgi
  rw [hcs] at hat' hkid
  have hat2:=roAt_tail hat'
  have hGv:=R.hA (ne_nil hidx)
  subst hGv
  have hx15:=hx1.trans (hx5.toS (S:=Only xb))
  obtain ⟨v6,h6,hs6,far6,s6,hx6,hX6,hf6,hcase⟩:=ih _ (hnm _ _ hgi) (hfw _ _ hgi) (s - 1) far q h5 _ hs1k (by omega) (by omega) hfar hq (ext_rom hx15 hrom) (ext_bn hx15 hb) (own_ext hx5 hXp) hkid
  simp -dsimp only [go_sem,g0,g1,g2,load_own hP1,k1,k2,k3]
  refine Dw_text (n:=241) [[],[],[1],[1,2],[1,2,3],[1,2,3,4],[],[6],[6,7],[6,7,8],[],[10],[6,7,8,9,10,11],[1,2,3,4,5,6,7,8,9,10,11,12],[1,2,3,4,5,6,7,8,9,10,11,12,13],[1,2,3,4,5,6,7,8,9,10,11,12,13,14],[],[0,1,2,3,4,5,6,7,8,9,10,11,12,13,14,15,16],[0,1,2,3,4,5,6,7,8,9,10,11,12,13,14,15,16,17],[0,1,2,3,4,5,6,7,8,9,10,11,12,13,14,15,16,17,18],[0,1,2,3,4,5,6,7,8,9,10,11,12,13,14,15,16,17,18],[0,1,2,3,4,5,6,7,8,9,10,11,12,13,14,15,16,17,18],[0,1,2,3,4,5,6,7,8,9,10,11,12,13,14,15,16,17,18,19],[0,1,2,3,4,5,6,7,8,9,10,11,12,13,14,15,16,17,18,19,20,22],[0,1,2,3,4,5,6,7,8,9,10,11,12,13,14,15,16,17,18,19,20,21,22,23]] (by simp -dsimp only [go_sem,hn]) (by kernel_rfl) ?_
  simp -dsimp only [go_sem,g0,g1,g2,load_own hP1,load_own hX1,loads_own hX1,load_own (own_ext hx5 hX1),sameN_sliceA R.hs]
  refine ⟨_,h5,hs5,?_⟩
  simp -dsimp only [go_sem,g0,g1,g2,ia22 hidx,loads_ro (n:=3) (ext_rom hx15 hrom) hat2 rfl,load_own hX1,load_own (own_ext hx5 hX1),loads_ro (n:=3) hrom2 hat2 rfl,sameN_sliceA hkid.same,sameN_sliceA R.hs]
  refine ⟨_,h6,hs6,?_⟩
  have hx16:=hx15.trans hx6
  have hb6:h6.base≤h6.next:=ext_bn hx16 hb
  rcases hcase with ⟨k6,⟨r6,n6,f6⟩,hrun,hss,hsp6,hff,hres⟩|⟨hneg,hlw,A,n,c',e',rfl,hspA⟩
  ·have hss:s6=s - 1 - (n6:Int):=hss
   have hff:far6=max far f6:=hff
   rw [←hbo] at hrun
   have hrun':=map_some (f:=ruleO t) hrun
   rw [←run_rule (d:=d) (l:=l) c3] at hrun'
   cases r6 with
   | none =>
     obtain ⟨A,n,c',e',rfl,hspA⟩:=hres
     simp -dsimp only [go_sem,sameN_sliceA hspA,hr]
     exact ⟨far6,s6,hx16,hX6,hf6,.inl ⟨_,_,hrun',by show s6=s - ((n6+1:Nat):Int);omega,hsp6,hff,⟨_,_,_,_,rfl,rfl⟩⟩⟩
   | some y =>
     obtain ⟨ks,e⟩:=y
     obtain ⟨kv,rfl,hkv⟩:=hres
     obtain ⟨A9,c9,rfl,hsp9⟩:=hkv.slice
     have hP6:=own_extS (hx5.toS.trans hx6) hP1 hxn
     have hrow:=own_new hb6 31 [.string ⟨#[114,117,108,101]⟩,.string t,.slice A9 ks.length c9]
     have hxr:=Ext.new h6 (CObj.cells ⟨[.string ⟨#[114,117,108,101]⟩,.string t,.slice A9 ks.length c9],31,0,0,false⟩)
     simp -dsimp only [go_sem,load_own hP6,sameN_sliceA hsp9,bs29 1 (by decide),repeatN,hr]
     refine ⟨far6,s6,hx16.trans hxr.toS,own_ext hxr hX6,hf6,.inl ⟨_,_,hrun',by show s6=s - ((n6+1:Nat):Int);omega,hsp6,hff,?_⟩⟩
     refine ⟨_,rfl,kids_new hrow (by have:=hx16.next;omega) (fun c=>c.1 rfl) ?_⟩
     exact (hkv.more (fun b _ c=>Nat.lt_of_lt_of_le c hx15.next) (fun f c=>.inl ⟨c.1,Nat.lt_of_lt_of_le c.2 hx15.nfam⟩)).keep (keepsE hxr).any
  ·simp -dsimp only [go_sem,sameN_sliceA hspA,hr]
   exact ⟨far6,s6,hx16,hX6,hf6,.inr ⟨hneg,by have:=hlow (s - 1) hs10 (Int.le_refl _);omega,_,_,_,_,rfl,rfl⟩⟩
 have k3:decide (d.data.toList=[114,117,108,101])=false:=decide_eq_false c3
 by_cases c4:d.data.toList=[115,101,113]
 ·have k4:decide (d.data.toList=[115,101,113])=true:=decide_eq_true c4
  simp -dsimp only [go_sem,g0,g1,g2,load_own hP1,k1,k2,k3,k4]
  have st:∀k o,run G items k (.seq l q [])=some o→∃k',run G items k' (.part ⟨d,t,l⟩ q)=some (plus1 o):=fun k o e=>⟨k+1,by rw [run_sq c4,e];rfl⟩
  refine ref_seq (fun i p hp=>ih p (hnk i p hp) (hfk i p hp)) hlb hA hat hk RI.hb (d:=d) (t:=t) (c:=c) (pb:=h.next) (s:=s - 1) (lb:=low s) (far:=far) (q:=q) (by simp -dsimp only [go_sem,hn]) hrom2 hb2 hXp hP1 hs10 hs1k (by omega) hfar hq hlow (by simp -dsimp only [go_sem,g0]) (by simp -dsimp only [go_sem,g2]) (by simp -dsimp only [go_sem]) (by simp -dsimp only [go_sem]) (by simp -dsimp only [go_sem]) (fun a1 h1 x6 x7 x8 hL e6 e7 e8 => ?_) (fun a1 h1 x6 x7 hL e12 e2 => ?_)
  ·simp -dsimp only [go_sem,e6,e7,e8,hr]
   exact (hL.plus rfl st).preS hx1
  ·simp -dsimp only [go_sem,e12,e2,hr]
   exact (hL.plus rfl st).preS hx1
 have k4:decide (d.data.toList=[115,101,113])=false:=decide_eq_false c4
 by_cases c5:d.data.toList=[111,114]
 ·have k5:decide (d.data.toList=[111,114])=true:=decide_eq_true c5
  simp -dsimp only [go_sem,g0,g1,g2,load_own hP1,k1,k2,k3,k4,k5]
  have st:∀k o,run G items k (.alt l q)=some o→∃k',run G items k' (.part ⟨d,t,l⟩ q)=some (plus1 o):=fun k o e=>⟨k+1,by rw [run_or c5,e];rfl⟩
  refine ref_or (fun i p hp=>ih p (hnk i p hp) (hfk i p hp)) hlb hA hat hk RI.hb (d:=d) (t:=t) (c:=c) (pb:=h.next) (s:=s - 1) (lb:=low s) (far:=far) (q:=q) (by simp -dsimp only [go_sem,hn]) hrom2 hb2 hXp hP1 hs10 hs1k (by omega) hfar hq hlow hlow2 (by simp -dsimp only [go_sem,g0]) (by simp -dsimp only [go_sem,g2]) (by simp -dsimp only [go_sem]) (by simp -dsimp only [go_sem]) (fun a1 h1 x6 x7 x8 hL e6 e7 e8 => ?_) (fun a1 h1 hL => ?_)
  ·simp -dsimp only [go_sem,e6,e7,e8,hr]
   exact (hL.plus rfl st).preS hx1
  ·simp -dsimp only [go_sem,hr]
   exact (hL.plus rfl st).preS hx1
 have k5:decide (d.data.toList=[111,114])=false:=decide_eq_false c5
 have one1:oneKid d→∃x,l=[x]∧named (nms G) x∧Few x∧RoPart r x (css 0)∧roAt r b o (css 0):=by
  intro ho
  have hl1:l.length=1:=hnp.2.1 ho
  match l,hl1,hnk,hfk,hk,hat with
  | [x],_,hnk,hfk,hk,hat=>exact ⟨x,rfl,hnk 0 x rfl,hfk 0 x rfl,hk 0 x rfl,by have:=hat 0 x rfl;simpa using this⟩
 by_cases c6:d.data.toList=[109,97,110,121]
 ·have k6:decide (d.data.toList=[109,97,110,121])=true:=decide_eq_true c6
  obtain ⟨x,rfl,hnx,hfx,hkx,hatx⟩:=one1 (.inl c6)
  have hAv:=hA (by simp)
  subst hAv
  simp -dsimp only [go_sem,g0,g1,g2,load_own hP1,k1,k2,k3,k4,k5,k6]
  have st:∀k o,run G items k (.many x q [])=some o→∃k',run G items k' (.part ⟨d,t,[x]⟩ q)=some (plus1 o):=fun k o e=>⟨k+1,by rw [run_mn c6,e];rfl⟩
  refine ref_many (ih x hnx hfx) hatx hkx RI.hb (d:=d) (t:=t) (c:=c) (pb:=h.next) (s:=s - 1) (lb:=low s) (far:=far) (q:=q) (by simp -dsimp only [go_sem,hn]) hrom2 hb2 hXp hP1 hs10 hs1k (by omega) hfar hq hlow (by simp -dsimp only [go_sem,g0]) (by simp -dsimp only [go_sem,g2]) (by simp -dsimp only [go_sem]) (by simp -dsimp only [go_sem]) (fun a1 h1 x6 x7 x8 hL e6 e7 e8 => ?_)
  simp -dsimp only [go_sem,e6,e7,e8,hr]
  exact (hL.plus rfl st).preS hx1
 have k6:decide (d.data.toList=[109,97,110,121])=false:=decide_eq_false c6
 by_cases c7:d.data.toList=[111,112,116]
 ·have k7:decide (d.data.toList=[111,112,116])=true:=decide_eq_true c7
  obtain ⟨x,rfl,hnx,hfx,hkx,hatx⟩:=one1 (.inr (.inl c7))
  have hAv:=hA (by simp)
  subst hAv
  obtain ⟨Av1,c1',hcs⟩:=hkx.shape
  rw [hcs] at hkx hatx
  obtain ⟨v6,h6,hs6,far6,s6,hx6,hX6,hf6,hcase⟩:=ih x hnx hfx (s - 1) far q h2 _ hs1k (by omega) (by omega) hfar hq hrom2 hb2 hXp hkx
  have hix:indexAddr' Try.prog 50 (.slice (some ⟨b,o,none⟩) 1 c) (.int .i64 0)=some (.pointer (some ⟨b,o,none⟩)):=hix0 (by simp)
  simp -dsimp only [go_sem,g0,g1,g2,load_own hP1,k1,k2,k3,k4,k5,k6,k7,hix,loads_ro (n:=3) hrom2 hatx rfl]
  refine ⟨_,h6,hs6,?_⟩
  have hx16:=hx1.trans hx6
  rcases hcase with ⟨k9,⟨r6,n6,f6⟩,hrun,hss,hsp6,hff,hres⟩|⟨hneg,hlw,A,n,c',e',rfl,hspA⟩
  ·have hss:s6=s - 1 - (n6:Int):=hss
   have hff:far6=max far f6:=hff
   have hrun':=map_some (f:=optO q) hrun
   rw [←run_opt (d:=d) (t:=t) c7] at hrun'
   have hge:decide (0≤s6)=true:=decide_eq_true hsp6
   cases r6 with
   | none =>
     obtain ⟨A,n,c',e',rfl,hspA⟩:=hres
     simp -dsimp only [go_sem]
     refine Dw_text (n:=241) [[],[],[1],[1,2],[1,2,3],[1,2,3,4],[],[0,6],[0,1,2,3,4,5,6,7]] (by simp -dsimp only [go_sem,hn]) (by kernel_rfl) ?_
     simp -dsimp only [go_sem,g0,g2,load_own hX6,pRow,hge,hr]
     exact ⟨far6,s6,hx16,hX6,hf6,.inl ⟨_,_,hrun',by show s6=s - ((n6+1:Nat):Int);omega,hsp6,hff,⟨_,rfl,KidsAt.nil⟩⟩⟩
   | some y =>
     obtain ⟨ks,e⟩:=y
     obtain ⟨kv,rfl,hkv⟩:=hres
     simp -dsimp only [go_sem,hr]
     exact ⟨far6,s6,hx16,hX6,hf6,.inl ⟨_,_,hrun',by show s6=s - ((n6+1:Nat):Int);omega,hsp6,hff,⟨_,rfl,hkv.more (fun b _ c=>Nat.lt_of_lt_of_le c hx1.next) (fun f c=>.inl ⟨c.1,Nat.lt_of_lt_of_le c.2 hx1.nfam⟩)⟩⟩⟩
  ·have hge:decide (0≤s6)=false:=decide_eq_false (by omega)
   simp -dsimp only [go_sem]
   refine Dw_text (n:=241) [[],[],[1],[1,2],[1,2,3],[1,2,3,4],[],[0,6],[0,1,2,3,4,5,6,7]] (by simp -dsimp only [go_sem,hn]) (by kernel_rfl) ?_
   simp -dsimp only [go_sem,g0,g2,load_own hX6,pRow,hge,hr]
   exact ⟨far6,s6,hx16,hX6,hf6,.inr ⟨hneg,by have:=hlow (s - 1) hs10 (Int.le_refl _);omega,_,_,_,_,rfl,rfl⟩⟩
 have k7:decide (d.data.toList=[111,112,116])=false:=decide_eq_false c7
 by_cases c8:d.data.toList=[110,111,116]
 ·have k8:decide (d.data.toList=[110,111,116])=true:=decide_eq_true c8
  obtain ⟨x,rfl,hnx,hfx,hkx,hatx⟩:=one1 (.inr (.inr c8))
  have hAv:=hA (by simp)
  subst hAv
  obtain ⟨Av1,c1',hcs⟩:=hkx.shape
  rw [hcs] at hkx hatx
  obtain ⟨v6,h6,hs6,far6,s6,hx6,hX6,hf6,hcase⟩:=ih x hnx hfx (s - 1) far q h2 _ hs1k (by omega) (by omega) hfar hq hrom2 hb2 hXp hkx
  have hix:indexAddr' Try.prog 50 (.slice (some ⟨b,o,none⟩) 1 c) (.int .i64 0)=some (.pointer (some ⟨b,o,none⟩)):=hix0 (by simp)
  simp -dsimp only [go_sem,g0,g1,g2,load_own hP1,k1,k2,k3,k4,k5,k6,k7,k8,hix,loads_ro (n:=3) hrom2 hatx rfl]
  refine ⟨_,h6,hs6,?_⟩
  have hx16:=hx1.trans hx6
  rcases hcase with ⟨k9,⟨r6,n6,f6⟩,hrun,hss,hsp6,hff,hres⟩|⟨hneg,hlw,A,n,c',e',rfl,hspA⟩
  ·have hss:s6=s - 1 - (n6:Int):=hss
   have hff:far6=max far f6:=hff
   have hrun':=map_some (f:=notO q) hrun
   rw [←run_not (d:=d) (t:=t) c8] at hrun'
   have hge:decide (0≤s6)=true:=decide_eq_true hsp6
   cases r6 with
   | none =>
     obtain ⟨A,n,c',e',rfl,hspA⟩:=hres
     simp -dsimp only [go_sem]
     refine Dw_text (n:=241) [[],[],[1],[1,2],[1,2,3],[1,2,3,4],[],[0,6],[0,1,2,3,4,5,6,7]] (by simp -dsimp only [go_sem,hn]) (by kernel_rfl) ?_
     simp -dsimp only [go_sem,g0,g2,load_own hX6,pRow,hge,hr]
     exact ⟨far6,s6,hx16,hX6,hf6,.inl ⟨_,_,hrun',by show s6=s - ((n6+1:Nat):Int);omega,hsp6,hff,⟨_,rfl,KidsAt.nil⟩⟩⟩
   | some y =>
     obtain ⟨ks,e⟩:=y
     obtain ⟨kv,rfl,hkv⟩:=hres
     simp -dsimp only [go_sem,hr]
     exact ⟨far6,s6,hx16,hX6,hf6,.inl ⟨_,_,hrun',by show s6=s - ((n6+1:Nat):Int);omega,hsp6,hff,⟨_,_,_,_,rfl,rfl⟩⟩⟩
  ·have hge:decide (0≤s6)=false:=decide_eq_false (by omega)
   simp -dsimp only [go_sem]
   refine Dw_text (n:=241) [[],[],[1],[1,2],[1,2,3],[1,2,3,4],[],[0,6],[0,1,2,3,4,5,6,7]] (by simp -dsimp only [go_sem,hn]) (by kernel_rfl) ?_
   simp -dsimp only [go_sem,g0,g2,load_own hX6,pRow,hge,hr]
   exact ⟨far6,s6,hx16,hX6,hf6,.inr ⟨hneg,by have:=hlow (s - 1) hs10 (Int.le_refl _);omega,_,_,_,_,rfl,rfl⟩⟩
 have k8:decide (d.data.toList=[110,111,116])=false:=decide_eq_false c8
 have hge:decide (0≤s - 1)=true:=decide_eq_true hs10
 simp -dsimp only [go_sem,g0,g1,g2,load_own hP1,k1,k2,k3,k4,k5,k6,k7,k8]
 refine Dw_text (n:=241) [[],[],[1],[1,2],[1,2,3],[1,2,3,4],[],[0,6],[0,1,2,3,4,5,6,7]] (by simp -dsimp only [go_sem,hn]) (by kernel_rfl) ?_
 simp -dsimp only [go_sem,g0,g2,load_own hX1,hge,hr]
 exact ⟨far,s - 1,hx1,hXp,hfar,.inl ⟨1,_,run_else c1 c2 c3 c4 c5 c6 c7 c8,rfl,hs10,by simp,⟨_,rfl,KidsAt.nil⟩⟩⟩
theorem ref_part {gb go ib io:Nat} {gcss:Nat→List Value} (R:RoRules r G Gv gc gb go gcss) (RI:RoItems r items Iv ic ib io) (hnm:∀(i:Nat) (x:Rule),G[i]? = some x→named (nms G) x.body) (hfw:∀(i:Nat) (x:Rule),G[i]? = some x→Few x.body) :
  ∀(k:Nat),k≤50000→∀p,named (nms G) p→Few p→RefC r G items Gv Iv gc ic xb k p:=by
 intro k
 induction k with
 | zero=>exact fun _ p hn hf s far q h cs hsk hs1 hs2 hfar hq hrom hb hX hp=>ref_neg (k:=0) s (by omega) far q h cs hs1 hfar hrom hb hX hp
 | succ k ih =>
   intro hk5 p hn hf s far q h cs hsk hs1 hs2 hfar hq hrom hb hX hp
   by_cases hs:s≤0
   ·exact ref_neg (k:=0) s hs far q h cs hs1 hfar hrom hb hX hp
   ·exact ref_pos R RI hnm hfw (ih (by omega)) hn hf s (by omega) far q h cs hsk (by omega) hfar hq hrom hb hX hp
end Go.Ev.G24
end
section
namespace Go.Ev.G24
open Go.RowKit Go.Proofs
variable {r:Ro} {G:List Rule} {items:List ByteArray} {Gv Iv:Option Addr} {gc ic xb:Nat}
def zeroT:Value:=.agg #[.string ⟨#[]⟩,.string ⟨#[]⟩,.slice none 0 0]
def ruleP (s:ByteArray):Part:=⟨⟨#[114,117,108,101]⟩,s,[]⟩
def RunV (items:List ByteArray) (rule:ByteArray) (o:Outc) (h h1:Hp) (v:Value):Prop:=match o.1 with
 | none=>v=.tuple #[zeroT,.int .i64 (o.2.2:Int),.int .i64 5,.bool true]
 | some (ks,e)=>if e<items.length then v=.tuple #[zeroT,.int .i64 ((max o.2.2 e:Nat):Int),.int .i64 5,.bool true]
   else ∃ks' cs,ks=[ruleT rule ks']∧v=.tuple #[.agg cs.toArray,.int .i64 (items.length:Int),.int .i64 0,.bool true]∧TreeAt h1 (fun b=>b<h.next) (fun f=>f≠0∧f<h.nfam) (ruleT rule ks') cs
def RefParseP (G:List Rule) (items:List ByteArray) (rule:ByteArray) (h:Hp) (v:Value) (h1:Hp):Prop:=Ext h h1 ∧
 (((rightG G=true→∃em,Found G em∧withB G em rule=false)∧v=.tuple #[zeroT,.int .i64 0,.int .i64 240,.bool true]) ∨
   ((rightG G=true∧∃em,Found G em∧withB G em rule=true)∧(v=.tuple #[zeroT,.int .i64 0,.int .i64 0,.bool false] ∨
     ∃k o,run G items k (.part (ruleP rule) 0)=some o∧o.2.1≤20000∧RunV items rule o h h1 v)))
theorem run_ruleP {k:Nat} {rule:ByteArray} {q:Nat} {o:Outc} (h:run G items k (.part (ruleP rule) q)=some o):∀ks e,o.1=some (ks,e)→∃ks',ks=[ruleT rule ks']:=by
 cases k with
 | zero=>cases h
 | succ k =>
   have hd:(⟨#[114,117,108,101]⟩:ByteArray).data.toList=[114,117,108,101]:=rfl
   unfold ruleP at h
   rw [run_rule hd,Option.map_eq_some_iff] at h
   obtain ⟨⟨r,n,f⟩,_,rfl⟩:=h
   intro ks e he
   cases r with
   | none=>cases he
   | some y =>
     obtain ⟨ks0,e0⟩:=y
     simp only [ruleO,Option.some.injEq,Prod.mk.injEq] at he
     exact ⟨ks0,he.1.symm⟩
theorem ro_ruleP (r:Ro) (s:ByteArray):RoPart r (ruleP s) [.string ⟨#[114,117,108,101]⟩,.string s,.slice none 0 0] :=
 .mk _ _ [] none 0 0 0 (fun _=>[]) (Nat.le_refl _) (Nat.zero_le _) (fun e=>absurd rfl e) (fun i p e=>by simp at e) (fun i p e=>by simp at e) rfl
theorem named_ruleP {s:ByteArray} (h:idxOf (nms G) s<(nms G).length):named (nms G) (ruleP s):=by
 unfold ruleP
 rw [named]
 exact ⟨fun _=>h,fun c=>by
  rcases c with c|c|c<;>exact absurd c (by decide),by rw [namedL];trivial⟩
theorem few_ruleP (s:ByteArray):Few (ruleP s):=.mk _ _ _ (by simp) (fun i p e=>by simp at e)
set_option maxHeartbeats 4000000 in
set_option maxRecDepth 10000 in
theorem refParse_c {gb go ib io:Nat} {gcss:Nat→List Value} (R:RoRules r G Gv gc gb go gcss) (hft:fitsG G) (RI:RoItems r items Iv ic ib io) (hfw:∀(i:Nat) (x:Rule),G[i]? = some x→Few x.body) (rule:ByteArray) (h:Hp) (hrom:h.rom=r) (hb:h.base≤h.next) :
  ∃v h1,Snd Try.prog 13 [.agg #[.slice Gv G.length gc],.string rule,.slice Iv items.length ic,.int .i64 20000] h v h1∧RefParseP G items rule h v h1:=by
 refine snd_go wf Try.func13 rfl rfl (n:=73) rfl (by kernel_rfl) rfl ?_
 intro a hn hg
 have hr:Try.f13.results.toList=[.cell 8 31,.tmp 9,.tmp 10,.tmp 11]:=rfl
 have g0:=hg 0
 have g1:=hg 1
 have g2:=hg 2
 have g3:=hg 3
 clear hg
 simp only [List.getElem?_cons_zero,List.getElem?_cons_succ] at g0 g1 g2 g3
 have hGl:(nms G).length=G.length:=by simp [nms]
 have hG:=own_new hb 24 [.slice Gv G.length gc]
 have hxg:=Ext.new h (CObj.cells ⟨[.slice Gv G.length gc],24,0,0,false⟩)
 have hbg:=Nat.le_succ_of_le (m:=h.next) hb
 have hZ:=own_new (h:=h.newH (CObj.cells ⟨[.slice Gv G.length gc],24,0,0,false⟩)) hbg 31 [.string ⟨#[]⟩,.string ⟨#[]⟩,.slice none 0 0]
 have hG1:=own_newH hG (CObj.cells ⟨[.string ⟨#[]⟩,.string ⟨#[]⟩,.slice none 0 0],31,0,0,false⟩)
 have hx0:=hxg.trans (Ext.new _ (CObj.cells ⟨[.string ⟨#[]⟩,.string ⟨#[]⟩,.slice none 0 0],31,0,0,false⟩))
 simp -dsimp only [go_sem,g0,g1,g2,g3,next_newH,loads_own hG1]
 simp only [next_newH] at hZ
 generalize (h.newH (CObj.cells ⟨[.slice Gv G.length gc],24,0,0,false⟩)).newH (CObj.cells ⟨[.string ⟨#[]⟩,.string ⟨#[]⟩,.slice none 0 0],31,0,0,false⟩)=h2 at hZ hG1 hx0 ⊢
 have hb2:h2.base≤h2.next:=by rw [hx0.base];exact Nat.le_trans hb hx0.next
 have hrom2:h2.rom=r:=hx0.rom.trans hrom
 have zst:∀{h9:Hp},Ext h2 h9→∀x y z:Value,[x,y,z].all oneCell=true→h9.stores ⟨h.next+1,0,none⟩ [x,y,z]=some (h9.put (h.next+1) (.cells ⟨[x,y,z],31,0,0,false⟩))∧(h9.put (h.next+1) (.cells ⟨[x,y,z],31,0,0,false⟩)).loads ⟨h.next+1,0,none⟩ 3=some [x,y,z]∧Ext h (h9.put (h.next+1) (.cells ⟨[x,y,z],31,0,0,false⟩)):=by
  intro h9 hx9 x y z hc
  have hZ9:=own_ext hx9 hZ
  exact ⟨stores_own hZ9 hc rfl (by simp),by rw [loads_own (own_put_same hZ9 [x,y,z])];rfl,(hx0.trans hx9).put (Nat.le_succ _) _⟩
 obtain ⟨_,h3,hs3,hx3,hv3⟩:=refFine_c R hft h2 hrom2 hb2
 refine ⟨_,h3,hs3,?_⟩
 have bad:∀{h9:Hp},Ext h2 h9→(rightG G=true→∃em,Found G em∧withB G em rule=false)→RefParseP G items rule h (.tuple #[zeroT,.int .i64 0,.int .i64 240,.bool true]) (h9.put (h.next+1) (.cells ⟨[.string ⟨#[]⟩,.string ⟨#[]⟩,.slice none 0 0],31,0,0,false⟩)):=by
  intro h9 hx9 hw
  exact ⟨(zst hx9 _ _ _ rfl).2.2,.inl ⟨hw,rfl⟩⟩
 by_cases hrg:rightG G=true
 rotate_left
 ·rw [if_neg hrg] at hv3
  subst hv3
  obtain ⟨z1,z2,_⟩:=zst hx3 (.string ⟨#[]⟩) (.string ⟨#[]⟩) (.slice none 0 0) rfl
  simp -dsimp only [go_sem,undef',z1,z2,hr]
  exact bad hx3 (fun e=>absurd e hrg)
 rw [if_pos hrg] at hv3
 obtain ⟨em,hF,rfl⟩:=hv3
 obtain ⟨hfr,hnm⟩:=rightG_named hrg
 cases hfi:fineB G em with
 | false =>
   obtain ⟨z1,z2,_⟩:=zst hx3 (.string ⟨#[]⟩) (.string ⟨#[]⟩) (.slice none 0 0) rfl
   simp -dsimp only [go_sem,undef',z1,z2,hr]
   exact bad hx3 (fun _=>⟨em,hF,by simp [withB,hfi]⟩)
 | true =>
   have hG3:=own_ext hx3 hG1
   have hrom3:h3.rom=r:=hx3.rom.trans hrom2
   have hb3:h3.base≤h3.next:=by rw [hx3.base];exact Nat.le_trans hb2 hx3.next
   obtain ⟨_,h4,hs4,rfl,hx4⟩:=find_c R rule h3 hrom3 hb3
   rw [findB_idx,Nat.zero_add] at hs4
   simp -dsimp only [go_sem,undef',g1,loads_own hG3]
   refine ⟨_,h4,hs4,?_⟩
   have hx34:=hx3.trans hx4
   have hb4:h4.base≤h4.next:=by rw [hx4.base];exact Nat.le_trans hb3 hx4.next
   by_cases hidx:idxOf (nms G) rule<(nms G).length
   rotate_left
   ·have kk:decide ((-1:Int)<0)=true:=rfl
    obtain ⟨z1,z2,_⟩:=zst hx34 (.string ⟨#[]⟩) (.string ⟨#[]⟩) (.slice none 0 0) rfl
    simp -dsimp only [go_sem,undef',if_neg hidx,kk,z1,z2,hr]
    rw [hGl] at hidx
    exact bad hx34 (fun _=>⟨em,hF,by simp [withB,hidx]⟩)
   have kk:decide (((idxOf (nms G) rule:Nat):Int)<0)=false:=decide_eq_false (by omega)
   have hG4:=own_ext hx34 hG1
   have hXn:=own_new hb4 71 [.slice Gv G.length gc,.slice Iv items.length ic,.int .i64 0,.int .i64 20000]
   have hxX:=Ext.new h4 (CObj.cells ⟨[.slice Gv G.length gc,.slice Iv items.length ic,.int .i64 0,.int .i64 20000],71,0,0,false⟩)
   simp -dsimp only [go_sem,undef',g1,g2,g3,if_pos hidx,kk,loads_own hG4]
   generalize h4.newH (CObj.cells ⟨[.slice Gv G.length gc,.slice Iv items.length ic,.int .i64 0,.int .i64 20000],71,0,0,false⟩)=h5 at hXn hxX ⊢
   have hx5:=hx34.trans hxX
   have hb5:h5.base≤h5.next:=by rw [hxX.base];exact Nat.le_trans hb4 hxX.next
   obtain ⟨v6,h6,hs6,far6,s6,hx6,hX6,hf6,hcase⟩:=ref_part (G:=G) (items:=items) (Gv:=Gv) (Iv:=Iv) (gc:=gc) (ic:=ic) (xb:=h4.next) R RI hnm hfw 20001 (by decide) (ruleP rule) (named_ruleP hidx) (few_ruleP rule) 20000 0 0 h5 _ (by decide) (by decide) (by decide) (Nat.zero_le _) (Nat.zero_le _) (hx5.rom.trans hrom2) hb5 hXn (ro_ruleP r rule)
   have hs6':Snd Try.prog 40 [.pointer (some ⟨h4.next,0,none⟩),.agg #[.string ⟨#[114,117,108,101]⟩,.string rule,.slice none 0 0],.int .i64 0] h5 v6 h6:=hs6
   refine ⟨_,h6,hs6',?_⟩
   have hx26:Ext h2 h6:=(hx5.toS.trans hx6).ext (fun b hb hs=>by
    have:b=h4.next:=hs
    have:=hx34.next
    omega)
   unfold pRow at hX6
   have hW:rightG G=true∧∃em,Found G em∧withB G em rule=true:=⟨hrg,em,hF,by rw [hGl] at hidx;simp [withB,hfi,hidx]⟩
   rcases hcase with ⟨k6,⟨r6,n6,f6⟩,hrun,hss,hsp6,hff,hres⟩|⟨hneg,hlw,A,n,c',e',rfl,hspA⟩
   ·have hss:s6=20000 - (n6:Int):=hss
    have hff:far6=f6:=by
     have:far6=max 0 f6:=hff
     omega
    subst hff
    have hge:decide (s6<0)=false:=decide_eq_false (by omega)
    cases r6 with
    | none =>
      obtain ⟨A,n,c',e',rfl,hspA⟩:=hres
      obtain ⟨z1,z2,z3⟩:=zst hx26 (.string ⟨#[]⟩) (.string ⟨#[]⟩) (.slice none 0 0) rfl
      simp -dsimp only [go_sem,undef',load_own hX6,hge]
      refine Dw_text (n:=73) [[],[],[1],[1,2],[1,2,3],[0],[0,1,2,3,4,5],[0,1,2,3,4,5,6],[0,1,2,3,4,5,6,7]] (by simp -dsimp only [go_sem,hn]) (by kernel_rfl) ?_
      have hX6z:=own_put hX6 (d:=h.next+1) (by have:=hZ.2.1;have:=hx34.next;omega) (.cells ⟨[.string ⟨#[]⟩,.string ⟨#[]⟩,.slice none 0 0],31,0,0,false⟩)
      simp -dsimp only [go_sem,undef',load_own hX6,load_own hX6z,z1,z2,hr]
      refine ⟨z3,.inr ⟨hW,.inr ⟨k6,_,hrun,by omega,rfl⟩⟩⟩
    | some y =>
      obtain ⟨ks,e⟩:=y
      obtain ⟨kv,rfl,hkv⟩:=hres
      have hfair:=run_fair _ _ _ (show placeT (.part (ruleP rule) 0)≤items.length from Nat.zero_le _) hrun
      obtain ⟨ks',rfl⟩:=run_ruleP hrun _ _ rfl
      have hen:e≤items.length:=hfair.2.1
      have hst7:=stores_own hX6 (o:=2) (vs:=[.int .i64 ((max far6 e:Nat):Int)]) (c1:=[.slice Gv G.length gc,.slice Iv items.length ic,.int .i64 ((max far6 e:Nat):Int),.int .i64 s6]) rfl rfl (by simp)
      have hX7:=own_put_same hX6 [.slice Gv G.length gc,.slice Iv items.length ic,.int .i64 ((max far6 e:Nat):Int),.int .i64 s6]
      have hx7:=hx26.put (b:=h4.next) hx34.next (.cells ⟨[.slice Gv G.length gc,.slice Iv items.length ic,.int .i64 ((max far6 e:Nat):Int),.int .i64 s6],71,0,0,false⟩)
      have hkeep7:Keeps (fun _=>False) (fun _=>False) h6 (h6.put h4.next (.cells ⟨[.slice Gv G.length gc,.slice Iv items.length ic,.int .i64 ((max far6 e:Nat):Int),.int .i64 s6],71,0,0,false⟩)):=keepsN (S:=Only h4.next) (((Ext.refl h6).toS (S:=Only h4.next)).put (b:=h4.next) (.inr rfl) _) (noRow_own hX6 (by decide))
      simp -dsimp only [go_sem,undef',load_own hX6,hge,max_int,hst7]
      generalize (h6.put h4.next (.cells ⟨[.slice Gv G.length gc,.slice Iv items.length ic,.int .i64 ((max far6 e:Nat):Int),.int .i64 s6],71,0,0,false⟩))=h7 at hX7 hx7 hkeep7 ⊢
      have hkv7:=hkv.keep hkeep7.any
      by_cases hel:e<items.length
      ·have k9:decide ((e:Int)<(items.length:Int))=true:=decide_eq_true (by omega)
       obtain ⟨z1,z2,z3⟩:=zst hx7 (.string ⟨#[]⟩) (.string ⟨#[]⟩) (.slice none 0 0) rfl
       simp -dsimp only [go_sem,undef',g2,k9]
       refine Dw_text (n:=73) [[],[],[1],[1,2],[1,2,3],[0],[0,1,2,3,4,5],[0,1,2,3,4,5,6],[0,1,2,3,4,5,6,7]] (by simp -dsimp only [go_sem,hn]) (by kernel_rfl) ?_
       have hX7z:=own_put hX7 (d:=h.next+1) (by have:=hZ.2.1;have:=hx34.next;omega) (.cells ⟨[.string ⟨#[]⟩,.string ⟨#[]⟩,.slice none 0 0],31,0,0,false⟩)
       simp -dsimp only [go_sem,undef',load_own hX7,load_own hX7z,z1,z2,hr]
       refine ⟨z3,.inr ⟨hW,.inr ⟨k6,_,hrun,by omega,?_⟩⟩⟩
       show if e<items.length then _ else _
       rw [if_pos hel]
       rfl
      ·have k9:decide ((e:Int)<(items.length:Int))=false:=decide_eq_false (by omega)
       obtain ⟨A9,c9,b9,o9,f9,row9,css9,rfl,hc9,hs9,hA9,hat9,hk9⟩:=hkv7
       obtain ⟨rfl,hrow9,_,_⟩:=hA9 (by simp)
       have hat0:=hat9 0 (ruleT rule ks') rfl
       have hk0:=hk9 0 (ruleT rule ks') rfl
       rw [Nat.zero_mul,Nat.add_zero] at hat0
       obtain ⟨kv0,hcs0,hkv0⟩:=hk0.kids
       rw [hcs0] at hat0
       obtain ⟨A0,c0,rfl,hsp0⟩:=hkv0.slice
       have hix:indexAddr' Try.prog 29 (.slice (some ⟨b9,o9,none⟩) 1 c9) (.int .i64 0)=some (.pointer (some ⟨b9,o9,none⟩)):=by
        have:=ia29 (b:=b9) (o:=o9) (c:=c9) (n:=1) (i:=0) (by decide)
        simpa using this
       have hld9:h7.loads ⟨b9,o9,none⟩ 3=some [.string (ruleT rule ks').d,.string (ruleT rule ks').t,.slice A0 (ruleT rule ks').l.length c0]:=by rw [row_loads hrow9,hat0]
       obtain ⟨z1,z2,z3⟩:=zst hx7 (.string (ruleT rule ks').d) (.string (ruleT rule ks').t) (.slice A0 (ruleT rule ks').l.length c0) rfl
       simp -dsimp only [go_sem,undef',g2,k9,hix,hld9,z1,z2,hr,List.length_cons,List.length_nil]
       refine ⟨z3,.inr ⟨hW,.inr ⟨k6,_,hrun,by omega,?_⟩⟩⟩
       show if e<items.length then _ else _
       rw [if_neg hel]
       refine ⟨ks',_,rfl,rfl,?_⟩
       have hT:=(hkv0.tree (d:=(ruleT rule ks').d) (t:=(ruleT rule ks').t))
       refine (hT.more (B':=fun b=>b<h2.next) (F':=fun f=>f≠0∧f<h2.nfam) (fun b _ c=>Nat.lt_of_lt_of_le c hx5.next) (fun f c=>.inl ⟨c.1,Nat.lt_of_lt_of_le c.2 hx5.nfam⟩)).keep ?_ |>.more (fun b _ c=>Nat.lt_of_lt_of_le c hx0.next) (fun f c=>.inl ⟨c.1,Nat.lt_of_lt_of_le c.2 hx0.nfam⟩)
       exact (keepsS (S:=fun b=>b<h2.next) (((Ext.refl h7).toS (S:=fun b=>b<h2.next)).put (b:=h.next+1) (.inr hZ.2.1) _)).mono (fun _ _ c=>c) (fun _ _ _ c=>c.elim) (fun c=>c)
   ·have hge:decide (s6<0)=true:=decide_eq_true hneg
    obtain ⟨z1,z2,z3⟩:=zst hx26 (.string ⟨#[]⟩) (.string ⟨#[]⟩) (.slice none 0 0) rfl
    simp -dsimp only [go_sem,undef',load_own hX6,hge,z1,z2,hr]
    exact ⟨z3,.inr ⟨hW,.inl rfl⟩⟩
end Go.Ev.G24
end
section
namespace Go.Ev.G24
open Go.RowKit Go.Proofs
variable {r:Ro} {G:List Rule} {items:List ByteArray} {Gv Iv:Option Addr} {gc ic:Nat}
def farO (o:Outc):Nat:=match o.1 with
 | some (_,e)=>max o.2.2 e
 | none=>o.2.2
def WholeP (G:List Rule) (items:List ByteArray) (rule:ByteArray) (h:Hp) (v:Value) (h1:Hp):Prop:=Ext h h1 ∧
 ((v=.tuple #[.agg #[.bool false,.int .i64 0,.slice none 0 0],.int .i64 0,.bool false]∧(rightG G=true→∃em,Found G em∧withB G em rule=false)) ∨
   ((rightG G=true∧∃em,Found G em∧withB G em rule=true)∧∃k o x y z,run G items k (.part (ruleP rule) 0)=some o∧v=.tuple #[.agg #[x,y,z],.int .i64 (farO o:Int),.bool true]∧OutV h1 (fun b=>b<h.next) (fun f=>f≠0∧f<h.nfam) o.1 (.agg #[x,y,z])))
set_option maxHeartbeats 8000000 in
set_option maxRecDepth 10000 in
theorem whole_c {gb go ib io:Nat} {gcss:Nat→List Value} (R:RoRules r G Gv gc gb go gcss) (hft:fitsG G) (RI:RoItems r items Iv ic ib io) (hfw:∀(i:Nat) (x:Rule),G[i]? = some x→Few x.body) (rule:ByteArray)
  (hrun:rightG G=true→∀em,Found G em→withB G em rule=true→∃k o,run G items k (.part (ruleP rule) 0)=some o∧o.2.1≤50000) (h:Hp) (hrom:h.rom=r) (hb:h.base≤h.next) :
  ∃v h1,Snd Try.prog 41 [.agg #[.slice Gv G.length gc],.string rule,.slice Iv items.length ic] h v h1∧WholeP G items rule h v h1:=by
 refine snd_go wf Try.func41 rfl rfl (n:=40) rfl (by kernel_rfl) rfl ?_
 intro a hn hg
 have hr:Try.f41.results.toList=[.cell 6 75,.tmp 7,.tmp 8]:=rfl
 have g0:=hg 0
 have g1:=hg 1
 have g2:=hg 2
 clear hg
 simp only [List.getElem?_cons_zero,List.getElem?_cons_succ] at g0 g1 g2
 have hGl:(nms G).length=G.length:=by simp [nms]
 have hG:=own_new hb 24 [.slice Gv G.length gc]
 have hxg:=Ext.new h (CObj.cells ⟨[.slice Gv G.length gc],24,0,0,false⟩)
 have hbg:=Nat.le_succ_of_le (m:=h.next) hb
 have hZ:=own_new (h:=h.newH (CObj.cells ⟨[.slice Gv G.length gc],24,0,0,false⟩)) hbg 75 [.bool false,.int .i64 0,.slice none 0 0]
 have hG1:=own_newH hG (CObj.cells ⟨[.bool false,.int .i64 0,.slice none 0 0],75,0,0,false⟩)
 have hx0:=hxg.trans (Ext.new _ (CObj.cells ⟨[.bool false,.int .i64 0,.slice none 0 0],75,0,0,false⟩))
 simp -dsimp only [go_sem,g0,g1,g2,next_newH,loads_own hG1]
 simp only [next_newH] at hZ
 generalize (h.newH (CObj.cells ⟨[.slice Gv G.length gc],24,0,0,false⟩)).newH (CObj.cells ⟨[.bool false,.int .i64 0,.slice none 0 0],75,0,0,false⟩)=h2 at hZ hG1 hx0 ⊢
 have hb2:h2.base≤h2.next:=by rw [hx0.base];exact Nat.le_trans hb hx0.next
 have hrom2:h2.rom=r:=hx0.rom.trans hrom
 obtain ⟨_,h3,hs3,hx3,hcase⟩:=with_c R hft rule h2 hrom2 hb2
 refine ⟨_,h3,hs3,?_⟩
 have hb3:h3.base≤h3.next:=by rw [hx3.base];exact Nat.le_trans hb2 hx3.next
 rcases hcase with ⟨rfl,hbad⟩|⟨hrg,bk,m,eb,em,rfl,l1,l2,l3,hBk,hF,hW⟩
 ·obtain ⟨vS,vO,vX,vB,vR⟩:=var_ok hb3 (e:=52) (c0:=[.string ⟨#[]⟩,.string ⟨#[]⟩,.slice none 0 0]) (c1:=[.string ⟨#[]⟩,.string ⟨#[]⟩,.slice none 0 0]) rfl rfl (by simp)
  have hZ4:=own_ext (hx3.trans vX) hZ
  have hzs:=stores_own hZ4 (o:=0) (vs:=[.bool false,.int .i64 0,.slice none 0 0]) (c1:=[.bool false,.int .i64 0,.slice none 0 0]) rfl rfl (by simp)
  have hZ5:=own_put_same hZ4 [.bool false,.int .i64 0,.slice none 0 0]
  simp -dsimp only [go_sem,vS,hzs,loads_own hZ5,hr]
  exact ⟨(hx0.trans (hx3.trans vX)).put (Nat.le_succ _) _,.inl ⟨rfl,hbad⟩⟩
 ·obtain ⟨k9,o9,hrk,hno⟩:=hrun hrg em hF hW
  obtain ⟨hfr,hnm⟩:=rightG_named hrg
  obtain ⟨vS,vO,vX,vB,vR⟩:=var_ok hb3 (e:=52) (c0:=[.string ⟨#[]⟩,.string ⟨#[]⟩,.slice none 0 0]) (c1:=[.string ⟨#[114,117,108,101]⟩,.string rule,.slice none 0 0]) rfl rfl (by simp)
  simp -dsimp only [go_sem,vS]
  generalize h3.var 52 [.string ⟨#[]⟩,.string ⟨#[]⟩,.slice none 0 0] [.string ⟨#[114,117,108,101]⟩,.string rule,.slice none 0 0]=h4 at vS vO vX vB vR ⊢
  have hx4:=hx3.trans vX
  have hM5:(h4.newH (.map [] 0)).objs.get h4.next=some (.map [] 0):=by rw [get_newH,if_pos rfl]
  have hx5:=Ext.new h4 (.map [] 0)
  have hb5:=Nat.le_succ_of_le vB
  have hXn:=own_new (h:=h4.newH (.map [] 0)) hb5 128 [.pointer (some ⟨bk,0,none⟩),.slice Iv items.length ic,.map (some h4.next),.int .i64 0]
  have hx6:=Ext.new (h4.newH (.map [] 0)) (CObj.cells ⟨[.pointer (some ⟨bk,0,none⟩),.slice Iv items.length ic,.map (some h4.next),.int .i64 0],128,0,0,false⟩)
  simp -dsimp only [go_sem,g2,next_newH]
  simp only [next_newH] at hXn
  have hM6:((h4.newH (.map [] 0)).newH (CObj.cells ⟨[.pointer (some ⟨bk,0,none⟩),.slice Iv items.length ic,.map (some h4.next),.int .i64 0],128,0,0,false⟩)).objs.get h4.next=some (.map [] 0):=by
   rw [get_newH,if_neg (by show h4.next≠h4.next+1;omega)]
   exact hM5
  have hn6:h4.next+1+1=((h4.newH (.map [] 0)).newH (CObj.cells ⟨[.pointer (some ⟨bk,0,none⟩),.slice Iv items.length ic,.map (some h4.next),.int .i64 0],128,0,0,false⟩)).next:=rfl
  have hP6:=own_ext (hx5.trans hx6) vO
  simp -dsimp only [go_sem,loads_own hP6]
  generalize ((h4.newH (.map [] 0)).newH (CObj.cells ⟨[.pointer (some ⟨bk,0,none⟩),.slice Iv items.length ic,.map (some h4.next),.int .i64 0],128,0,0,false⟩))=h6 at hXn hM6 hn6 hP6 hx6 ⊢
  have hx46:=hx5.trans hx6
  have hx26:=hx4.trans hx46
  have hx06:=hx0.trans hx26
  have hb6:h6.base≤h6.next:=by rw [hx06.base];exact Nat.le_trans hb hx06.next
  have hidx:idxOf (nms G) rule<(nms G).length:=by
   have:=hW
   unfold withB at this
   rw [Bool.and_eq_true] at this
   rw [hGl]
   exact of_decide_eq_true this.2
  have hmm:m≠h4.next:=by
   have:=hBk.map.1
   have:=vX.next
   omega
  have hMe:MemoOk G items h6 (fun b=>b<h.next) (fun f=>f≠0∧f<h.nfam) 0 h4.next []:=⟨⟨by omega,[],0,hM6,rfl⟩,fun e he=>by simp at he⟩
  obtain ⟨v7,h7,hs7,memo7,hx7,hX7,hM7,hV7⟩:=take_c R RI hnm hfw hmm k9 (ruleP rule) (named_ruleP hidx) (few_ruleP rule) (fun b=>b<h.next) (fun f=>f≠0∧f<h.nfam) 0 0 h6 _ [] o9 ⟨fun b c=>Nat.lt_of_lt_of_le c hx06.next,fun f c=>⟨c.1,Nat.lt_of_lt_of_le c.2 hx06.nfam⟩⟩ (Nat.zero_le _) (Nat.zero_le _) (hx06.rom.trans hrom) hb6 hXn hMe ((hBk.ext vX).ext hx46) (ro_ruleP r rule) hrk hno
  have hs7':Snd Try.prog 70 [.pointer (some ⟨h4.next+1,0,none⟩),.agg #[.string ⟨#[114,117,108,101]⟩,.string rule,.slice none 0 0],.int .i64 0] h6 v7 h7:=hs7
  refine ⟨_,h7,hs7',?_⟩
  obtain ⟨e7,A7,n7,c7,hv7,hsp7⟩:=hV7.shape
  subst hv7
  have hx27:Ext h2 h7:=(hx26.toS.trans hx7).ext (fun b hb hs=>by
   have h1:h2.next≤h4.next:=hx4.next
   rcases hs with c|c<;>omega)
  have hb7:h7.base≤h7.next:=by rw [hx27.base];exact Nat.le_trans hb2 hx27.next
  obtain ⟨wS,wO,wX,wB,wR⟩:=var_ok hb7 (e:=75) (c0:=[.bool false,.int .i64 0,.slice none 0 0]) (c1:=[.bool o9.1.isSome,.int .i64 e7,.slice A7 n7 c7]) rfl rfl (by simp)
  simp -dsimp only [go_sem,wS]
  have hX8:=own_ext wX hX7
  unfold runRow at hX8
  have hZ8:=own_ext (hx27.trans wX) hZ
  have hV8:=hV7.keep (keepsE wX).any
  have hxz:h.next+1≠h7.next:=by have:=hZ8.2.1;have:=hZ.2.1;have:=hx27.next;omega
  have hxb8:h4.next+1≠h.next+1:=by have:=hZ.2.1;have:=hx4.next;omega
  have hx08:Ext h2 _:=hx27.trans wX
  generalize h7.var 75 [.bool false,.int .i64 0,.slice none 0 0] [.bool o9.1.isSome,.int .i64 e7,.slice A7 n7 c7]=h8 at wS wO wX wB wR hX8 hZ8 hV8 hx08 ⊢
  have hzs:=stores_own hZ8 (o:=0) (vs:=[.bool o9.1.isSome,.int .i64 e7,.slice A7 n7 c7]) (c1:=[.bool o9.1.isSome,.int .i64 e7,.slice A7 n7 c7]) rfl rfl (by simp)
  have hZ9:=own_put_same hZ8 [.bool o9.1.isSome,.int .i64 e7,.slice A7 n7 c7]
  have hX9:=own_put hX8 hxb8 (.cells ⟨[.bool o9.1.isSome,.int .i64 e7,.slice A7 n7 c7],75,0,0,false⟩)
  have wO9:=own_put wO (d:=h.next+1) hxz.symm (.cells ⟨[.bool o9.1.isSome,.int .i64 e7,.slice A7 n7 c7],75,0,0,false⟩)
  refine Dw_text (n:=40) [[],[],[1],[1,2],[1,2,3],[],[5],[1,2,3,4,5,6],[0],[0,1,2,3,4,5,6,7,8],[0,1,2,3,4,5,6,7,8,9]] (by simp -dsimp only [go_sem,hn]) (by kernel_rfl) ?_
  have he7:∃e:Nat,e7=(e:Int)∧max o9.2.2 e=farO o9:=by
   cases ho:o9.1 with
   | none =>
     rw [ho] at hV7
     have hV7:Value.agg #[.bool false,.int .i64 e7,.slice A7 n7 c7]=.agg #[.bool false,.int .i64 0,.slice none 0 0]:=hV7
     injection hV7 with h1
     have:=congrArg Array.toList h1
     simp only [List.cons.injEq,Value.int.injEq] at this
     exact ⟨0,this.2.1.2,by unfold farO;rw [ho];simp⟩
   | some y =>
     obtain ⟨ks,e⟩:=y
     rw [ho] at hV7
     obtain ⟨kv,h1,h2⟩:=hV7
     injection h1 with h1
     have:=congrArg Array.toList h1
     simp only [List.cons.injEq,Value.int.injEq] at this
     exact ⟨e,this.2.1.2,by unfold farO;rw [ho]⟩
  obtain ⟨e,rfl,hfe⟩:=he7
  simp -dsimp only [go_sem,loads_own wO,load_own wO,load_own wO9,load_own hX8,load_own hX9,max_int,Nat.zero_max,hzs,sameN_sliceA hsp7,loads_own hZ9,hr]
  have xz:ExtS (Only (h.next+1)) h8 (h8.put (h.next+1) (.cells ⟨[.bool o9.1.isSome,.int .i64 (e:Int),.slice A7 n7 c7],75,0,0,false⟩)):=((Ext.refl h8).toS (S:=Only (h.next+1))).put (b:=h.next+1) (.inr rfl) _
  refine ⟨(hx0.trans hx08).put (Nat.le_succ _) _,.inr ⟨⟨hrg,em,hF,hW⟩,k9,o9,_,_,_,hrk,by rw [hfe],hV8.keep (keepsN xz (noRow_own hZ8 (by decide))).any⟩⟩
end Go.Ev.G24
end
section
namespace Go.Ev.G24
open Go.RowKit Go.Proofs
variable {r:Ro} {G:List Rule} {items:List ByteArray} {Gv Iv:Option Addr} {gc ic:Nat}
def ParseV (items:List ByteArray) (rule:ByteArray) (o:Outc) (h1:Hp) (v:Value):Prop:=match o.1 with
 | none=>v=.tuple #[zeroT,.int .i64 5]
 | some (ks,e)=>if e<items.length then v=.tuple #[zeroT,.int .i64 5]
   else ∃ks' cs,ks=[ruleT rule ks']∧v=.tuple #[.agg cs.toArray,.int .i64 0]∧TreeAt h1 (fun _=>False) (fun _=>False) (ruleT rule ks') cs
def ParseP (G:List Rule) (items:List ByteArray) (rule:ByteArray) (h:Hp) (v:Value) (h1:Hp):Prop:=Ext h h1 ∧
 ((v=.tuple #[zeroT,.int .i64 240]∧(rightG G=true→∃em,Found G em∧withB G em rule=false)) ∨
   ((rightG G=true∧∃em,Found G em∧withB G em rule=true)∧∃k o,run G items k (.part (ruleP rule) 0)=some o∧ParseV items rule o h1 v))
def farV (items:List ByteArray) (o:Outc):Nat:=match o.1 with
 | some (_,e)=>if e=items.length then items.length else farO o
 | none=>farO o
set_option maxHeartbeats 8000000 in
set_option maxRecDepth 10000 in
theorem parse_c {gb go ib io:Nat} {gcss:Nat→List Value} (R:RoRules r G Gv gc gb go gcss) (hft:fitsG G) (RI:RoItems r items Iv ic ib io) (hfw:∀(i:Nat) (x:Rule),G[i]? = some x→Few x.body) (rule:ByteArray)
  (hrun:rightG G=true→∀em,Found G em→withB G em rule=true→∃k o,run G items k (.part (ruleP rule) 0)=some o∧o.2.1≤50000) (h:Hp) (hrom:h.rom=r) (hb:h.base≤h.next) :
  ∃v h1,Snd Try.prog 14 [.agg #[.slice Gv G.length gc],.string rule,.slice Iv items.length ic] h v h1∧ParseP G items rule h v h1:=by
 refine snd_go wf Try.func14 rfl rfl (n:=38) rfl (by kernel_rfl) rfl ?_
 intro a hn hg
 have hr:Try.f14.results.toList=[.cell 6 31,.tmp 7]:=rfl
 have g0:=hg 0
 have g1:=hg 1
 have g2:=hg 2
 clear hg
 simp only [List.getElem?_cons_zero,List.getElem?_cons_succ] at g0 g1 g2
 have hG:=own_new hb 24 [.slice Gv G.length gc]
 have hxg:=Ext.new h (CObj.cells ⟨[.slice Gv G.length gc],24,0,0,false⟩)
 have hbg:=Nat.le_succ_of_le (m:=h.next) hb
 have hZ:=own_new (h:=h.newH (CObj.cells ⟨[.slice Gv G.length gc],24,0,0,false⟩)) hbg 31 [.string ⟨#[]⟩,.string ⟨#[]⟩,.slice none 0 0]
 have hG1:=own_newH hG (CObj.cells ⟨[.string ⟨#[]⟩,.string ⟨#[]⟩,.slice none 0 0],31,0,0,false⟩)
 have hx0:=hxg.trans (Ext.new _ (CObj.cells ⟨[.string ⟨#[]⟩,.string ⟨#[]⟩,.slice none 0 0],31,0,0,false⟩))
 simp -dsimp only [go_sem,g0,g1,g2,next_newH,loads_own hG1]
 simp only [next_newH] at hZ
 generalize (h.newH (CObj.cells ⟨[.slice Gv G.length gc],24,0,0,false⟩)).newH (CObj.cells ⟨[.string ⟨#[]⟩,.string ⟨#[]⟩,.slice none 0 0],31,0,0,false⟩)=h2 at hZ hG1 hx0 ⊢
 have hb2:h2.base≤h2.next:=by rw [hx0.base];exact Nat.le_trans hb hx0.next
 have zst:∀{h9:Hp},Ext h2 h9→∀x y z:Value,[x,y,z].all oneCell=true→h9.stores ⟨h.next+1,0,none⟩ [x,y,z]=some (h9.put (h.next+1) (.cells ⟨[x,y,z],31,0,0,false⟩))∧(h9.put (h.next+1) (.cells ⟨[x,y,z],31,0,0,false⟩)).loads ⟨h.next+1,0,none⟩ 3=some [x,y,z]∧Ext h (h9.put (h.next+1) (.cells ⟨[x,y,z],31,0,0,false⟩)):=by
  intro h9 hx9 x y z hc
  have hZ9:=own_ext hx9 hZ
  exact ⟨stores_own hZ9 hc rfl (by simp),by rw [loads_own (own_put_same hZ9 [x,y,z])];rfl,(hx0.trans hx9).put (Nat.le_succ _) _⟩
 obtain ⟨_,h3,hs3,hx3,hcase⟩:=whole_c R hft RI hfw rule hrun h2 (hx0.rom.trans hrom) hb2
 refine ⟨_,h3,hs3,?_⟩
 have hb3:h3.base≤h3.next:=by rw [hx3.base];exact Nat.le_trans hb2 hx3.next
 rcases hcase with ⟨rfl,hbad⟩|⟨hW,k9,o9,x,y,z,hrk,rfl,hV⟩
 ·obtain ⟨vS,vO,vX,vB,vR⟩:=var_ok hb3 (e:=75) (c0:=[.bool false,.int .i64 0,.slice none 0 0]) (c1:=[.bool false,.int .i64 0,.slice none 0 0]) rfl rfl (by simp)
  obtain ⟨z1,z2,z3⟩:=zst (hx3.trans vX) (.string ⟨#[]⟩) (.string ⟨#[]⟩) (.slice none 0 0) rfl
  simp -dsimp only [go_sem,vS,z1,z2,hr]
  exact ⟨z3,.inl ⟨rfl,hbad⟩⟩
 ·obtain ⟨e7,A7,n7,c7,hv7,hsp7⟩:=hV.shape
  injection hv7 with hv7
  have hv8:=congrArg Array.toList hv7
  simp only [List.cons.injEq] at hv8
  obtain ⟨rfl,rfl,rfl,_⟩:=hv8
  obtain ⟨vS,vO,vX,vB,vR⟩:=var_ok hb3 (e:=75) (c0:=[.bool false,.int .i64 0,.slice none 0 0]) (c1:=[.bool o9.1.isSome,.int .i64 e7,.slice A7 n7 c7]) rfl rfl (by simp)
  have hx4:=hx3.trans vX
  cases ho:o9.1 with
  | none =>
    obtain ⟨z1,z2,z3⟩:=zst hx4 (.string ⟨#[]⟩) (.string ⟨#[]⟩) (.slice none 0 0) rfl
    rw [ho] at vS vO z1 z2 z3
    simp only [Option.isSome_none] at vS vO z1 z2 z3
    simp -dsimp only [go_sem,undef',Option.isSome_none,vS,load_own vO,z1,z2,hr]
    refine ⟨z3,.inr ⟨hW,k9,o9,hrk,?_⟩⟩
    unfold ParseV
    rw [ho]
    rfl
  | some w =>
    obtain ⟨ks,e⟩:=w
    have hV':=hV
    rw [ho] at hV'
    obtain ⟨kv,hv1,hkv⟩:=hV'
    injection hv1 with hv1
    have hv2:=congrArg Array.toList hv1
    simp only [List.cons.injEq,Value.int.injEq] at hv2
    obtain ⟨_,⟨_,rfl⟩,hkv0,_⟩:=hv2
    subst hkv0
    obtain ⟨ks',hks⟩:=run_ruleP hrk _ _ ho
    subst hks
    by_cases hel:e<items.length
    ·have k9':decide ((e:Int)<(items.length:Int))=true:=decide_eq_true (by omega)
     obtain ⟨z1,z2,z3⟩:=zst hx4 (.string ⟨#[]⟩) (.string ⟨#[]⟩) (.slice none 0 0) rfl
     rw [ho] at vS vO z1 z2 z3
     simp only [Option.isSome_some] at vS vO z1 z2 z3
     simp -dsimp only [go_sem,undef',Option.isSome_some,vS,load_own vO,g2,k9',z1,z2,hr]
     refine ⟨z3,.inr ⟨hW,k9,o9,hrk,?_⟩⟩
     unfold ParseV
     rw [ho]
     show if e<items.length then _ else _
     rw [if_pos hel]
     rfl
    ·have k9':decide ((e:Int)<(items.length:Int))=false:=decide_eq_false (by omega)
     rw [ho] at vS vO hx4 vX vB vR
     simp only [Option.isSome_some,show [ruleT rule ks'].length=1 from rfl] at vS vO hx4 vX vB vR hkv
     have hkv4:=hkv.keep (keepsE vX).any
     obtain ⟨A9,c9,b9,o0,f9,row9,css9,hve,hc9,hs9,hA9,hat9,hk9⟩:=hkv4
     injection hve with hve1 hve2 hve3
     have hve2:n7=1:=hve2
     subst hve1 hve2 hve3
     obtain ⟨rfl,hrow9,_,_⟩:=hA9 (by simp)
     have hat0:=hat9 0 (ruleT rule ks') rfl
     have hk0:=hk9 0 (ruleT rule ks') rfl
     rw [Nat.zero_mul,Nat.add_zero] at hat0
     obtain ⟨kv0,hcs0,hkv0⟩:=hk0.kids
     rw [hcs0] at hat0 hk0
     obtain ⟨A0,c0,rfl,hsp0⟩:=hkv0.slice
     have hix:∀cc:Nat,indexAddr' Try.prog 29 (.slice (some ⟨b9,o0,none⟩) 1 cc) (.int .i64 0)=some (.pointer (some ⟨b9,o0,none⟩)):=by
      intro cc
      have:=ia29 (b:=b9) (o:=o0) (c:=cc) (n:=1) (i:=0) (by decide)
      simpa using this
     have hld9:=row_loads (o:=o0) (n:=3) hrow9
     rw [hat0] at hld9
     obtain ⟨hrg,em,hF,hWb⟩:=hW
     obtain ⟨k',o',hr',hn'⟩:=hrun hrg em hF hWb
     have hoo:o9=o':=run_det hrk hr'
     have hfair:=run_fair _ _ _ (show placeT (.part (ruleP rule) 0)≤items.length from Nat.zero_le _) hrk
     unfold Fair at hfair
     rw [ho] at hfair
     obtain ⟨_,_,hfk⟩:=hfair
     obtain ⟨_,hfew⟩:=hfk (by rw [hoo];simp only [accT,List.length_nil];omega) (fun p hp=>by simp [accT] at hp)
     obtain ⟨_,h5,hs5,hx5,cs1,rfl,ht5⟩:=copied_c _ (ruleT rule ks') (Nat.lt_succ_self _) (hfew _ (by simp)) _ _ vB (hk0.more (fun b _ c=>c.elim) (fun f c=>c.elim))
     obtain ⟨kv1,hcs1,hkv1⟩:=ht5.kids
     subst hcs1
     obtain ⟨A1,c1,rfl,hsp1⟩:=hkv1.slice
     obtain ⟨z1,z2,z3⟩:=zst (hx4.trans hx5) (.string (ruleT rule ks').d) (.string (ruleT rule ks').t) (.slice A1 (ruleT rule ks').l.length c1) rfl
     simp -dsimp only [go_sem,undef',Option.isSome_some,vS,load_own vO,g2,k9',hix,hld9]
     refine ⟨_,h5,hs5,?_⟩
     simp -dsimp only [go_sem,z1,z2,hr]
     refine ⟨z3,.inr ⟨⟨hrg,em,hF,hWb⟩,k9,o9,hrk,?_⟩⟩
     unfold ParseV
     rw [ho]
     show if e<items.length then _ else _
     rw [if_neg hel]
     refine ⟨ks',_,rfl,rfl,?_⟩
     have hzlt:=Nat.lt_of_lt_of_le hZ.2.1 hx4.next
     exact (ht5.keep ((keepsS (S:=Only (h.next+1)) (((Ext.refl h5).toS (S:=Only (h.next+1))).put (b:=h.next+1) (.inr rfl) _)).mono (fun b _ c=>by have c':b=h.next+1:=c;rw [c'];exact hzlt) (fun _ _ _ c=>c.elim) (fun c=>c))).more (fun b _ c=>c.elim) (fun f c=>c.elim)
end Go.Ev.G24
end
section
namespace Go.Ev.G24
open Go.RowKit Go.Proofs
theorem sz85:sizeOf' Try.prog 85=some 2:=by kernel_rfl
@[go_sem] theorem z81 : zero' Try.prog 81 = some (.agg #[.slice none 0 0, .slice none 0 0, .int .i64 0]) := by kernel_rfl
@[go_sem] theorem z85 : zero' Try.prog 85 = some (.agg #[.slice none 0 0, .int .i64 0]) := by kernel_rfl
@[go_sem] theorem z92 : zero' Try.prog 92 = some (.agg #[.pointer none, .slice none 0 0, .int .i64 0]) := by kernel_rfl
@[go_sem] theorem fa81_0 (b o : Nat) : fieldAddr' Try.prog 81 (.pointer (some ⟨b, o, none⟩)) 0 = some (.pointer (some ⟨b, o, none⟩)) := field_addr 24 0 Try.underlying81 rfl sz24 b o
@[go_sem] theorem fa81_1 (b o : Nat) : fieldAddr' Try.prog 81 (.pointer (some ⟨b, o, none⟩)) 1 = some (.pointer (some ⟨b, o + 1, none⟩)) := field_addr 25 1 Try.underlying81 rfl sz25 b o
@[go_sem] theorem fa81_2 (b o : Nat) : fieldAddr' Try.prog 81 (.pointer (some ⟨b, o, none⟩)) 2 = some (.pointer (some ⟨b, o + 2, none⟩)) := field_addr 3 2 Try.underlying81 rfl sz3 b o
@[go_sem] theorem fa85_0 (b o : Nat) : fieldAddr' Try.prog 85 (.pointer (some ⟨b, o, none⟩)) 0 = some (.pointer (some ⟨b, o, none⟩)) := field_addr 29 0 Try.underlying85 rfl sz29 b o
@[go_sem] theorem fa85_1 (b o : Nat) : fieldAddr' Try.prog 85 (.pointer (some ⟨b, o, none⟩)) 1 = some (.pointer (some ⟨b, o + 1, none⟩)) := field_addr 3 1 Try.underlying85 rfl sz3 b o
@[go_sem] theorem fa92_0 (b o : Nat) : fieldAddr' Try.prog 92 (.pointer (some ⟨b, o, none⟩)) 0 = some (.pointer (some ⟨b, o, none⟩)) := field_addr 87 0 Try.underlying92 rfl sz87 b o
@[go_sem] theorem fa92_1 (b o : Nat) : fieldAddr' Try.prog 92 (.pointer (some ⟨b, o, none⟩)) 1 = some (.pointer (some ⟨b, o + 1, none⟩)) := field_addr 25 1 Try.underlying92 rfl sz25 b o
@[go_sem] theorem fa92_2 (b o : Nat) : fieldAddr' Try.prog 92 (.pointer (some ⟨b, o, none⟩)) 2 = some (.pointer (some ⟨b, o + 2, none⟩)) := field_addr 3 2 Try.underlying92 rfl sz3 b o
@[go_sem] theorem ia82 {b o n c i : Nat} (hi : i < n) : indexAddr' Try.prog 82 (.slice (some ⟨b, o, none⟩) n c) (.int .i64 (i : Int)) = some (.pointer (some ⟨b, o + i * 2, none⟩)) := index_addr Try.underlying82 sz85 hi
@[go_sem] theorem ia93 {b o n c i : Nat} (hi : i < n) : indexAddr' Try.prog 93 (.slice (some ⟨b, o, none⟩) n c) (.int .i64 (i : Int)) = some (.pointer (some ⟨b, o + i * 3, none⟩)) := index_addr Try.underlying93 sz75 hi
@[go_sem] theorem len82 (h : Hp) (b : Option Addr) (n c : Nat) (r : List TypeId) : len' Try.prog h (82 :: r) [.slice b n c] = some (.int .i64 n) := len_slice Try.underlying82 h b n c r
@[go_sem] theorem len93 (h : Hp) (b : Option Addr) (n c : Nat) (r : List TypeId) : len' Try.prog h (93 :: r) [.slice b n c] = some (.int .i64 n) := len_slice Try.underlying93 h b n c r
@[go_sem] theorem bd81 (ps : List (Nat × Value)) : build' Try.prog 81 ps = match fill' (fun i => ([(0, 1), (1, 1), (2, 1)] : List (Nat × Nat))[i]?) [.slice none 0 0, .slice none 0 0, .int .i64 0] ps with | some c => some (.agg c.toArray) | none => none := build_of z81 Try.underlying81 (by kernel_rfl) (fun i => by
 match i with
 | 0=>exact by simp only [placeOf,List.getElem?_cons_zero,List.getElem?_cons_succ,sz24]
 | 1=>exact by simp only [placeOf,List.getElem?_cons_zero,List.getElem?_cons_succ,sz25]
 | 2=>exact by simp only [placeOf,List.getElem?_cons_zero,List.getElem?_cons_succ,sz3]
 | _+3=>rfl) ps
@[go_sem] theorem bd85 (ps : List (Nat × Value)) : build' Try.prog 85 ps = match fill' (fun i => ([(0, 1), (1, 1)] : List (Nat × Nat))[i]?) [.slice none 0 0, .int .i64 0] ps with | some c => some (.agg c.toArray) | none => none := build_of z85 Try.underlying85 (by kernel_rfl) (fun i => by
 match i with
 | 0=>exact by simp only [placeOf,List.getElem?_cons_zero,List.getElem?_cons_succ,sz29]
 | 1=>exact by simp only [placeOf,List.getElem?_cons_zero,List.getElem?_cons_succ,sz3]
 | _+2=>rfl) ps
@[go_sem] theorem bd92 (ps : List (Nat × Value)) : build' Try.prog 92 ps = match fill' (fun i => ([(0, 1), (1, 1), (2, 1)] : List (Nat × Nat))[i]?) [.pointer none, .slice none 0 0, .int .i64 0] ps with | some c => some (.agg c.toArray) | none => none := build_of z92 Try.underlying92 (by kernel_rfl) (fun i => by
 match i with
 | 0=>exact by simp only [placeOf,List.getElem?_cons_zero,List.getElem?_cons_succ,sz87]
 | 1=>exact by simp only [placeOf,List.getElem?_cons_zero,List.getElem?_cons_succ,sz25]
 | 2=>exact by simp only [placeOf,List.getElem?_cons_zero,List.getElem?_cons_succ,sz3]
 | _+3=>rfl) ps
@[go_sem] theorem bs82 (n : Nat) (hn : n ≤ 1000) (ps : List (Nat × Value)) : buildRow' Try.prog 82 n ps = match fill' (fun i => some (i * 2, 2)) (repeatN [.slice none 0 0, .int .i64 0] n) ps with | some c => some (.cells ⟨c, 85, 0, 0, false⟩, fun b => .slice (some ⟨b, 0, none⟩) n n) | none => none := buildRow_of Try.underlying82 sz85 z85 rfl (by decide) (by omega) ps
@[go_sem] theorem bs93 (n : Nat) (hn : n ≤ 1000) (ps : List (Nat × Value)) : buildRow' Try.prog 93 n ps = match fill' (fun i => some (i * 3, 3)) (repeatN [.bool false, .int .i64 0, .slice none 0 0] n) ps with | some c => some (.cells ⟨c, 75, 0, 0, false⟩, fun b => .slice (some ⟨b, 0, none⟩) n n) | none => none := buildRow_of Try.underlying93 sz75 z75 rfl (by decide) (by omega) ps
end Go.Ev.G24
end
section
namespace Go.Ev.G24
open Go.RowKit Go.Proofs
abbrev Way:=List Part×Nat
inductive TaskW
 | part (p:Part) (q:Nat)
 | alts (l:List Part) (q:Nat)
 | row (l:List Part) (q:Nat)
 | rowH (hs:List Way) (l:List Part)
 | again (x:Part) (q:Nat)
 | againH (hs:List Way) (x:Part)
abbrev OutW:=List Way×Nat×Nat
def oneW (items:List ByteArray) (w:Option ByteArray) (q:Nat):OutW:=match items[q]? with
 | some s=>if testB w s=true then ([([itemT s],q+1)],1,0) else ([],1,0)
 | none=>([],1,0)
def ruleW (t:ByteArray) (o:OutW):OutW:=(o.1.map fun w=>([ruleT t w.1],w.2),o.2.1+1,o.2.2)
def manyW (o:OutW):OutW:=(o.1.map fun w=>([manyT w.1],w.2),o.2.1+1,o.2.2)
def plusW (o:OutW):OutW:=(o.1,o.2.1+1,o.2.2)
def optW (q:Nat) (o:OutW):OutW:=(o.1++[([],q)],o.2.1+1,o.2.2)
def notW (q:Nat) (o:OutW):OutW:=(if 0<o.1.length then [] else [([],q)],o.2.1+1,o.2.2)
def altW (a b:OutW):OutW:=(a.1++b.1,a.2.1+b.2.1,a.2.2+b.2.2)
def rowW (a b:OutW):OutW:=(b.1,a.2.1+b.2.1,a.2.2+b.2.2)
def consW (ks:List Part) (rs:List Way):List Way:=rs.map fun r=>(ks++r.1,r.2)
def stepH (ks:List Part) (a b:OutW):OutW:=(consW ks a.1++b.1,a.2.1+b.2.1,a.2.2+b.2.2+a.1.length)
def againW (q:Nat) (a b:OutW):OutW:=(b.1++[([],q)],a.2.1+b.2.1,a.2.2+b.2.2)
def two (rc:TaskW→Option OutW) (t:TaskW) (f:OutW→TaskW) (g:OutW→OutW→OutW):Option OutW:=(rc t).bind fun a=>(rc (f a)).map (g a)
def head1W (rc:TaskW→Option OutW) (f:Part→TaskW) (l:List Part) (g:OutW→OutW):Option OutW:=match l with
 | x::_=>(rc (f x)).map g
 | []=>none
def stepPW (G:List Rule) (items:List ByteArray) (rc:TaskW→Option OutW) (d t:ByteArray) (l:List Part) (q:Nat):Option OutW :=
 if d.data.toList=[105,115] then some (oneW items (some t) q)
 else if d.data.toList=[97,110,121] then some (oneW items none q)
 else if d.data.toList=[114,117,108,101] then (rc (.part (bodyOf G t) q)).map (ruleW t)
 else if d.data.toList=[115,101,113] then (rc (.row l q)).map plusW
 else if d.data.toList=[111,114] then (rc (.alts l q)).map plusW
 else if d.data.toList=[109,97,110,121] then head1W rc (fun x=>.again x q) l manyW
 else if d.data.toList=[111,112,116] then head1W rc (fun x=>.part x q) l (optW q)
 else if d.data.toList=[110,111,116] then head1W rc (fun x=>.part x q) l (notW q)
 else some ([([],q)],1,0)
def stepW (G:List Rule) (items:List ByteArray) (rc:TaskW→Option OutW):TaskW→Option OutW
 | .part ⟨d,t,l⟩ q=>stepPW G items rc d t l q
 | .alts [] q=>some ([],0,0)
 | .alts (x::l) q=>two rc (.part x q) (fun _=>.alts l q) altW
 | .row [] q=>some ([([],q)],0,0)
 | .row (x::l) q=>two rc (.part x q) (fun a=>.rowH a.1 l) rowW
 | .rowH [] l=>some ([],0,0)
 | .rowH ((ks,e)::hs) l=>two rc (.row l e) (fun _=>.rowH hs l) (stepH ks)
 | .again x q=>two rc (.part x q) (fun a=>.againH a.1 x) (againW q)
 | .againH [] x=>some ([],0,0)
 | .againH ((ks,e)::hs) x=>two rc (.again x e) (fun _=>.againH hs x) (stepH ks)
def runW (G:List Rule) (items:List ByteArray):Nat→TaskW→Option OutW
 | 0,_=>none
 | k+1,t=>stepW G items (runW G items k) t
def LeW (rc rc':TaskW→Option OutW):Prop:=∀t o,rc t=some o→rc' t=some o
variable {G:List Rule} {items:List ByteArray} {rc rc':TaskW→Option OutW}
theorem LeW.map (h:LeW rc rc') {t:TaskW} {f:OutW→OutW} {o:OutW} (k:(rc t).map f=some o):(rc' t).map f=some o:=by
 rw [Option.map_eq_some_iff] at k ⊢
 obtain ⟨x,h1,h2⟩:=k
 exact ⟨x,h t x h1,h2⟩
theorem LeW.two (h:LeW rc rc') {t:TaskW} {f:OutW→TaskW} {g:OutW→OutW→OutW} {o:OutW} (k:two rc t f g=some o):two rc' t f g=some o:=by
 unfold G24.two at k ⊢
 rw [Option.bind_eq_some_iff] at k ⊢
 obtain ⟨x,h1,h2⟩:=k
 exact ⟨x,h t x h1,h.map h2⟩
theorem LeW.head1 (h:LeW rc rc') {f:Part→TaskW} {l:List Part} {g:OutW→OutW} {o:OutW} (k:head1W rc f l g=some o):head1W rc' f l g=some o:=by
 cases l with
 | nil=>cases k
 | cons x l=>exact h.map k
theorem stepW_le (h:LeW rc rc'):LeW (stepW G items rc) (stepW G items rc'):=by
 intro t o k
 match t with
 | .part ⟨d,t,l⟩ q =>
   change stepPW G items rc d t l q=some o at k
   show stepPW G items rc' d t l q=some o
   unfold stepPW at k ⊢
   by_cases c1:d.data.toList=[105,115]
   ·rw [if_pos c1] at k ⊢;exact k
   rw [if_neg c1] at k ⊢
   by_cases c2:d.data.toList=[97,110,121]
   ·rw [if_pos c2] at k ⊢;exact k
   rw [if_neg c2] at k ⊢
   by_cases c3:d.data.toList=[114,117,108,101]
   ·rw [if_pos c3] at k ⊢;exact h.map k
   rw [if_neg c3] at k ⊢
   by_cases c4:d.data.toList=[115,101,113]
   ·rw [if_pos c4] at k ⊢;exact h.map k
   rw [if_neg c4] at k ⊢
   by_cases c5:d.data.toList=[111,114]
   ·rw [if_pos c5] at k ⊢;exact h.map k
   rw [if_neg c5] at k ⊢
   by_cases c6:d.data.toList=[109,97,110,121]
   ·rw [if_pos c6] at k ⊢;exact h.head1 k
   rw [if_neg c6] at k ⊢
   by_cases c7:d.data.toList=[111,112,116]
   ·rw [if_pos c7] at k ⊢;exact h.head1 k
   rw [if_neg c7] at k ⊢
   by_cases c8:d.data.toList=[110,111,116]
   ·rw [if_pos c8] at k ⊢;exact h.head1 k
   rw [if_neg c8] at k ⊢
   exact k
 | .alts [] q=>exact k
 | .alts (x::l) q=>exact h.two k
 | .row [] q=>exact k
 | .row (x::l) q=>exact h.two k
 | .rowH [] l=>exact k
 | .rowH ((ks,e)::hs) l=>exact h.two k
 | .again x q=>exact h.two k
 | .againH [] x=>exact k
 | .againH ((ks,e)::hs) x=>exact h.two k
theorem runW_succ:∀k,LeW (runW G items k) (runW G items (k+1))
 | 0,t,o,h=>by cases h
 | k+1,t,o,h=>stepW_le (runW_succ k) t o h
theorem runW_le {k k':Nat} (h:k≤k'):LeW (runW G items k) (runW G items k'):=by
 induction h with
 | refl=>exact fun t o h=>h
 | step _ ih=>exact fun t o h=>runW_succ _ t o (ih t o h)
theorem runW_det {k k':Nat} {t:TaskW} {o o':OutW} (h:runW G items k t=some o) (h':runW G items k' t=some o'):o=o':=by
 have h1:=runW_le (Nat.le_max_left k k') t o h
 have h2:=runW_le (Nat.le_max_right k k') t o' h'
 rw [h1] at h2
 injection h2
theorem runW_two {k1 k2:Nat} {t t':TaskW} {f:OutW→TaskW} {g:OutW→OutW→OutW} {a b:OutW} (st:∀rc:TaskW→Option OutW,stepW G items rc t=two rc t' f g) (h1:runW G items k1 t'=some a) (h2:runW G items k2 (f a)=some b):runW G items (max k1 k2+1) t=some (g a b):=by
 show stepW G items (runW G items (max k1 k2)) t=_
 rw [st]
 unfold two
 rw [runW_le (Nat.le_max_left k1 k2) _ _ h1]
 simp only [Option.bind_some]
 rw [runW_le (Nat.le_max_right k1 k2) _ _ h2]
 rfl
theorem runW_inv {k:Nat} {t t':TaskW} {f:OutW→TaskW} {g:OutW→OutW→OutW} {o:OutW} (st:∀rc:TaskW→Option OutW,stepW G items rc t=two rc t' f g) (h:runW G items k t=some o):∃k' a b,k'+1=k∧runW G items k' t'=some a∧runW G items k' (f a)=some b∧o=g a b:=by
 cases k with
 | zero=>cases h
 | succ k =>
   change stepW G items (runW G items k) t=some o at h
   rw [st] at h
   unfold two at h
   rw [Option.bind_eq_some_iff] at h
   obtain ⟨a,h1,h2⟩:=h
   rw [Option.map_eq_some_iff] at h2
   obtain ⟨b,h3,h4⟩:=h2
   exact ⟨k,a,b,rfl,h1,h3,h4.symm⟩
def okH (N C:Nat) (hs:List Way):Prop:=∀w∈hs,w.2≤N∧w.1.length≤C∧∀p∈w.1,Few p
theorem okH.mono {N C C':Nat} {hs:List Way} (h:okH N C hs) (hc:C≤C'):okH N C' hs:=fun w hw=>⟨(h w hw).1,Nat.le_trans (h w hw).2.1 hc,(h w hw).2.2⟩
def slackW:TaskW→Nat
 | .row _ _=>1
 | .rowH hs _=>hs.length
 | _=>0
theorem oneW_cost {w:Option ByteArray} {q:Nat}:(oneW items w q).2.1=1∧(oneW items w q).1.length≤1:=by
 unfold oneW
 split
 ·split<;>exact ⟨rfl,by simp⟩
 ·exact ⟨rfl,by simp⟩
theorem stepPW_cases {d t:ByteArray} {l:List Part} {q:Nat} {o:OutW} {M:OutW→Prop} (h:stepPW G items rc d t l q=some o)
  (h1:∀w,M (oneW items w q)) (h2:∀a,rc (.part (bodyOf G t) q)=some a→M (ruleW t a)) (h3:∀a,rc (.row l q)=some a→M (plusW a)) (h4:∀a,rc (.alts l q)=some a→M (plusW a)) (h5:∀x a,rc (.again x q)=some a→M (manyW a)) (h6:∀x a,rc (.part x q)=some a→M (optW q a)) (h7:∀x a,rc (.part x q)=some a→M (notW q a)) (h8:M ([([],q)],1,0)):M o:=by
 have hm:∀{x:Option OutW} {f:OutW→OutW},x.map f=some o→(∀a,x=some a→M (f a))→M o:=by
  intro x f e k
  rw [Option.map_eq_some_iff] at e
  obtain ⟨a,e1,rfl⟩:=e
  exact k a e1
 have hh:∀{f:Part→TaskW} {g:OutW→OutW},head1W rc f l g=some o→(∀x a,rc (f x)=some a→M (g a))→M o:=by
  intro f g e k
  cases l with
  | nil=>cases e
  | cons x l=>exact hm e (k x)
 unfold stepPW at h
 split at h
 ·injection h with h;subst h;exact h1 _
 split at h
 ·injection h with h;subst h;exact h1 _
 split at h
 ·exact hm h h2
 split at h
 ·exact hm h h3
 split at h
 ·exact hm h h4
 split at h
 ·exact hh h h5
 split at h
 ·exact hh h h6
 split at h
 ·exact hh h h7
 injection h with h
 subst h
 exact h8
theorem runW_pos {k:Nat} {p:Part} {q:Nat} {o:OutW} (h:runW G items k (.part p q)=some o):1≤o.2.1:=by
 cases k with
 | zero=>cases h
 | succ k =>
   obtain ⟨d,t,l⟩:=p
   exact stepPW_cases (M:=fun o=>1≤o.2.1) h (fun w=>Nat.le_of_eq oneW_cost.1.symm) (fun a _=>Nat.le_add_left _ _) (fun a _=>Nat.le_add_left _ _) (fun a _=>Nat.le_add_left _ _) (fun _ a _=>Nat.le_add_left _ _) (fun _ a _=>Nat.le_add_left _ _) (fun _ a _=>Nat.le_add_left _ _) (Nat.le_refl _)
theorem runW_len:∀(k:Nat) (t:TaskW) (o:OutW),runW G items k t=some o→o.1.length≤o.2.1+slackW t
 | 0,t,o,h=>by cases h
 | k+1,t,o,h=>by
   have ih:=runW_len k
   match t,h with
   | .part ⟨d,t,l⟩ q,h =>
     refine stepPW_cases (M:=fun o=>o.1.length≤o.2.1+0) h (fun w => ?_) (fun a e => ?_) (fun a e => ?_) (fun a e => ?_) (fun x a e => ?_) (fun x a e => ?_) (fun x a e => ?_) ?_
     ·have:=oneW_cost (items:=items) (w:=w) (q:=q);omega
     ·have:=ih _ _ e;simp [ruleW,slackW] at this ⊢;omega
     ·have:=ih _ _ e;simp [plusW,slackW] at this ⊢;omega
     ·have:=ih _ _ e;simp [plusW,slackW] at this ⊢;omega
     ·have:=ih _ _ e;simp [manyW,slackW] at this ⊢;omega
     ·have:=ih _ _ e;simp [optW,slackW] at this ⊢;omega
     ·unfold notW;split<;>simp
     ·simp
   | .alts [] q,h=>injection h with h;subst h;simp
   | .alts (x::l) q,h =>
     obtain ⟨k',a,b,e0,h1,h2,rfl⟩:=runW_inv (fun rc=>rfl) h
     injection e0 with e0;subst e0
     have:=ih _ _ h1;have:=ih _ _ h2
     simp [altW,slackW] at *;omega
   | .row [] q,h=>injection h with h;subst h;simp [slackW]
   | .row (x::l) q,h =>
     obtain ⟨k',a,b,e0,h1,h2,rfl⟩:=runW_inv (fun rc=>rfl) h
     injection e0 with e0;subst e0
     have:=ih _ _ h1;have:=ih _ _ h2
     simp [rowW,slackW] at *;omega
   | .rowH [] l,h=>injection h with h;subst h;simp
   | .rowH ((ks,e)::hs) l,h =>
     obtain ⟨k',a,b,e0,h1,h2,rfl⟩:=runW_inv (fun rc=>rfl) h
     injection e0 with e0;subst e0
     have:=ih _ _ h1;have:=ih _ _ h2
     simp [stepH,consW,slackW] at *;omega
   | .again x q,h =>
     obtain ⟨k',a,b,e0,h1,h2,rfl⟩:=runW_inv (fun rc=>rfl) h
     injection e0 with e0;subst e0
     have:=runW_pos h1;have:=ih _ _ h2
     simp [againW,slackW] at *;omega
   | .againH [] x,h=>injection h with h;subst h;simp
   | .againH ((ks,e)::hs) x,h =>
     obtain ⟨k',a,b,e0,h1,h2,rfl⟩:=runW_inv (fun rc=>rfl) h
     injection e0 with e0;subst e0
     have:=ih _ _ h1;have:=ih _ _ h2
     simp [stepH,consW,slackW] at *;omega
def preW (N C:Nat):TaskW→Prop
 | .rowH hs _=>okH N C hs
 | .againH hs _=>okH N C hs
 | .part _ q=>q≤N∧C=0
 | .alts _ q=>q≤N∧C=0
 | .row _ q=>q≤N∧C=0
 | .again _ q=>q≤N∧C=0
theorem okH_one {N C q:Nat} (hq:q≤N):okH N C [([],q)]:=fun w hw=>by
 simp at hw
 subst hw
 exact ⟨hq,Nat.zero_le _,fun p hp=>by simp at hp⟩
theorem okH_app {N C:Nat} {a b:List Way} (ha:okH N C a) (hb:okH N C b):okH N C (a++b):=fun w hw=>by
 rcases List.mem_append.1 hw with h|h
 ·exact ha w h
 ·exact hb w h
theorem okH_cons {N C D:Nat} {ks:List Part} {e:Nat} {rs:List Way} (h1:ks.length≤C∧∀p∈ks,Few p) (h2:okH N D rs):okH N (C+D) (consW ks rs):=fun w hw=>by
 unfold consW at hw
 rw [List.mem_map] at hw
 obtain ⟨r,hr,rfl⟩:=hw
 obtain ⟨b1,b2,b3⟩:=h2 r hr
 refine ⟨b1,by rw [List.length_append];omega,fun p hp => ?_⟩
 rcases List.mem_append.1 hp with hp|hp
 ·exact h1.2 p hp
 ·exact b3 p hp
theorem okH_map {N C:Nat} {rs:List Way} (f:List Part→Part) (hf:∀l:List Part,l.length≤100000→(∀p∈l,Few p)→Few (f l)) (hC:C≤100000) (h:okH N C rs):okH N (C+1) (rs.map fun w=>([f w.1],w.2)):=fun w hw=>by
 rw [List.mem_map] at hw
 obtain ⟨r,hr,rfl⟩:=hw
 obtain ⟨b1,b2,b3⟩:=h r hr
 refine ⟨b1,by simp,fun p hp => ?_⟩
 simp at hp
 subst hp
 exact hf _ (by omega) b3
theorem runW_ok {N:Nat} (hN:items.length=N):∀(k:Nat) (t:TaskW) (o:OutW) (C:Nat),runW G items k t=some o→preW N C t→C+o.2.1≤100000→okH N (C+o.2.1) o.1
 | 0,t,o,C,h,_,_=>by cases h
 | k+1,t,o,C,h,hp,hc=>by
   have ih:=runW_ok hN k
   match t,h,hp with
   | .part ⟨d,t,l⟩ q,h,hp =>
     obtain ⟨hq,rfl⟩:=hp
     refine stepPW_cases (M:=fun o=>0+o.2.1≤100000→okH N (0+o.2.1) o.1) h (fun w _ => ?_) (fun a e hc => ?_) (fun a e hc => ?_) (fun a e hc => ?_) (fun x a e hc => ?_) (fun x a e hc => ?_) (fun x a e hc => ?_) (fun _=>okH_one hq) hc
     ·unfold oneW
      split
      ·rename_i s hs
       have:=get_lt' hs
       split
       ·intro w hw
        simp at hw
        subst hw
        refine ⟨by show q+1≤N;omega,by simp,fun p hp => ?_⟩
        simp at hp
        subst hp
        exact few_of (by simp) (fun p hp=>by simp at hp)
       ·intro w hw;simp at hw
      ·intro w hw;simp at hw
     ·have hc:0+(a.2.1+1)≤100000:=hc
      have:=okH_map (ruleT t) (fun l h1 h2=>few_of h1 h2) (by omega) (ih _ _ 0 e ⟨hq,rfl⟩ (by omega))
      exact this.mono (by show 0+a.2.1+1≤0+(a.2.1+1);omega)
     ·have hc:0+(a.2.1+1)≤100000:=hc
      exact (ih _ _ 0 e ⟨hq,rfl⟩ (by omega)).mono (by show 0+a.2.1≤0+(a.2.1+1);omega)
     ·have hc:0+(a.2.1+1)≤100000:=hc
      exact (ih _ _ 0 e ⟨hq,rfl⟩ (by omega)).mono (by show 0+a.2.1≤0+(a.2.1+1);omega)
     ·have hc:0+(a.2.1+1)≤100000:=hc
      have:=okH_map manyT (fun l h1 h2=>few_of h1 h2) (by omega) (ih _ _ 0 e ⟨hq,rfl⟩ (by omega))
      exact this.mono (by show 0+a.2.1+1≤0+(a.2.1+1);omega)
     ·have hc:0+(a.2.1+1)≤100000:=hc
      exact okH_app ((ih _ _ 0 e ⟨hq,rfl⟩ (by omega)).mono (by show 0+a.2.1≤0+(a.2.1+1);omega)) (okH_one hq)
     ·unfold notW
      split
      ·intro w hw;simp at hw
      ·exact okH_one hq
   | .alts [] q,h,hp=>injection h with h;subst h;intro w hw;simp at hw
   | .alts (x::l) q,h,hp =>
     obtain ⟨k',a,b,e0,h1,h2,rfl⟩:=runW_inv (fun rc=>rfl) h
     injection e0 with e0;subst e0
     obtain ⟨hq,rfl⟩:=hp
     have hc:0+(a.2.1+b.2.1)≤100000:=hc
     exact okH_app ((ih _ _ 0 h1 ⟨hq,rfl⟩ (by omega)).mono (by show 0+a.2.1≤0+(a.2.1+b.2.1);omega)) ((ih _ _ 0 h2 ⟨hq,rfl⟩ (by omega)).mono (by show 0+b.2.1≤0+(a.2.1+b.2.1);omega))
   | .row [] q,h,hp=>injection h with h;subst h;exact okH_one hp.1
   | .row (x::l) q,h,hp =>
     obtain ⟨k',a,b,e0,h1,h2,rfl⟩:=runW_inv (fun rc=>rfl) h
     injection e0 with e0;subst e0
     obtain ⟨hq,rfl⟩:=hp
     have hc:0+(a.2.1+b.2.1)≤100000:=hc
     have g1:=ih _ _ 0 h1 ⟨hq,rfl⟩ (by omega)
     exact (ih _ _ (0+a.2.1) h2 g1 (by omega)).mono (by show 0+a.2.1+b.2.1≤0+(a.2.1+b.2.1);omega)
   | .rowH [] l,h,hp=>injection h with h;subst h;intro w hw;simp at hw
   | .rowH ((ks,e)::hs) l,h,hp =>
     obtain ⟨k',a,b,e0,h1,h2,rfl⟩:=runW_inv (fun rc=>rfl) h
     injection e0 with e0;subst e0
     have hp:okH N C ((ks,e)::hs):=hp
     have hc:C+(a.2.1+b.2.1)≤100000:=hc
     obtain ⟨p1,p2,p3⟩:=hp (ks,e) (.head _)
     have g1:=ih _ _ 0 h1 ⟨p1,rfl⟩ (by omega)
     have g2:=ih _ _ C h2 (fun w hw=>hp w (.tail _ hw)) (by omega)
     exact okH_app ((okH_cons (e:=e) ⟨p2,p3⟩ g1).mono (by show C+(0+a.2.1)≤C+(a.2.1+b.2.1);omega)) (g2.mono (by show C+b.2.1≤C+(a.2.1+b.2.1);omega))
   | .again x q,h,hp =>
     obtain ⟨k',a,b,e0,h1,h2,rfl⟩:=runW_inv (fun rc=>rfl) h
     injection e0 with e0;subst e0
     obtain ⟨hq,rfl⟩:=hp
     have hc:0+(a.2.1+b.2.1)≤100000:=hc
     have g1:=ih _ _ 0 h1 ⟨hq,rfl⟩ (by omega)
     exact okH_app ((ih _ _ (0+a.2.1) h2 g1 (by omega)).mono (by show 0+a.2.1+b.2.1≤0+(a.2.1+b.2.1);omega)) (okH_one hq)
   | .againH [] x,h,hp=>injection h with h;subst h;intro w hw;simp at hw
   | .againH ((ks,e)::hs) x,h,hp =>
     obtain ⟨k',a,b,e0,h1,h2,rfl⟩:=runW_inv (fun rc=>rfl) h
     injection e0 with e0;subst e0
     have hp:okH N C ((ks,e)::hs):=hp
     have hc:C+(a.2.1+b.2.1)≤100000:=hc
     obtain ⟨p1,p2,p3⟩:=hp (ks,e) (.head _)
     have g1:=ih _ _ 0 h1 ⟨p1,rfl⟩ (by omega)
     have g2:=ih _ _ C h2 (fun w hw=>hp w (.tail _ hw)) (by omega)
     exact okH_app ((okH_cons (e:=e) ⟨p2,p3⟩ g1).mono (by show C+(0+a.2.1)≤C+(a.2.1+b.2.1);omega)) (g2.mono (by show C+b.2.1≤C+(a.2.1+b.2.1);omega))
end Go.Ev.G24
end
section
namespace Go.Ev.G24
open Go.RowKit Go.Proofs
variable {h h1 h2:Hp} {e:TypeId} {s:Nat} {B F B' F':Nat→Prop} {mk:Value→Nat→List Value}
structure MkW (mk:Value→Nat→List Value) (s:Nat):Prop where
 len:∀kv e,(mk kv e).length=s
 one:∀kv e,oneCell kv=true→(mk kv e).all oneCell=true
 pos:0<s
structure ApT (t e:TypeId) (s:Nat):Prop where
 hu:Try.prog.underlying t=some (.slice e)
 hs:sizeOf' Try.prog e=some s
 hz:∃z,zero' Try.prog e=some z∧Nat.beq z.cells.toList.length s=true∧0<s
 hby:(match Try.prog.info? e with|some i=>Nat.ble i.bytes 100000&&Nat.blt 0 i.bytes|none=>false)=true
 hni:noInt Try.prog [t]=true
def WaysAt (mk:Value→Nat→List Value) (e:TypeId) (s:Nat) (h:Hp) (n0 f0:Nat) (B F:Nat→Prop) (ws:List Way) (v:Value):Prop:=∃cs,OwnG e s h n0 f0 ws.length cs v ∧
 ∀(i:Nat) (w:Way),ws[i]? = some w→∃kv,takeN (cs.drop (i*s)) s=some (mk kv w.2)∧KidsAt h (fun x=>B x∨ownB v x) (fun q=>F q∨ownF h v q) w.1 kv
theorem WaysAt.nil {n0 f0:Nat}:WaysAt mk e s h n0 f0 B F [] (.slice none 0 0):=⟨[],.inl ⟨rfl,rfl,rfl⟩,fun i w hw=>by simp at hw⟩
theorem WaysAt.slice {n0 f0:Nat} {ws:List Way} {v:Value} (k:WaysAt mk e s h n0 f0 B F ws v):∃A,v=.slice A ws.length ws.length∧spotless A=true:=by
 obtain ⟨cs,h1,_⟩:=k
 exact h1.slice
theorem WaysAt.lt {n0 f0:Nat} {ws:List Way} {v:Value} (k:WaysAt mk e s h n0 f0 B F ws v) {x:Nat} (hx:ownB v x):n0≤x∧x<h.next:=by
 obtain ⟨cs,h1,_⟩:=k
 exact h1.lt hx
theorem WaysAt.flt {n0 f0:Nat} {ws:List Way} {v:Value} (k:WaysAt mk e s h n0 f0 B F ws v) {q:Nat} (hq:ownF h v q):q≠0∧f0≤q∧q<h.nfam:=by
 obtain ⟨cs,h1,_⟩:=k
 exact h1.flt hq
theorem WaysAt.ownF_same {S:Nat→Prop} {n0 f0:Nat} {ws:List Way} {v:Value} (k:WaysAt mk e s h n0 f0 B F ws v) (x:ExtS S h h1) (hS:∀b,ownB v b→¬S b) {q:Nat} (hq:ownF h1 v q):ownF h v q:=by
 obtain ⟨cs,h1,_⟩:=k
 exact h1.ownF_same x hS hq
theorem WaysAt.extS {S:Nat→Prop} (x:ExtS S h h1) (n:NoRow h S) {n0 f0:Nat} {ws:List Way} {v:Value} (k:WaysAt mk e s h n0 f0 B F ws v) (hS:∀b,ownB v b→¬S b):WaysAt mk e s h1 n0 f0 B F ws v:=by
 have k0:=k
 obtain ⟨cs,h1,h2⟩:=k
 refine ⟨cs,h1.ext x hS,fun i w hw => ?_⟩
 obtain ⟨kv,a1,a2⟩:=h2 i w hw
 exact ⟨kv,a1,(a2.keep (keepsN x n).any).more (fun b _ c=>c) (fun f c=>.inl (c.elim .inl (fun c=>.inr (k0.ownF_same x hS c))))⟩
theorem WaysAt.ext (x:Ext h h1) {n0 f0:Nat} {ws:List Way} {v:Value} (k:WaysAt mk e s h n0 f0 B F ws v):WaysAt mk e s h1 n0 f0 B F ws v:=k.extS (S:=fun _=>False) x.toS (fun _ _ _ _ c=>c) (fun _ _ c=>c)
theorem WaysAt.more {n0 f0:Nat} {ws:List Way} {v:Value} (hB:∀b,b<h.next→B' b→B b) (hF:∀f,F' f→F f∨(f≠0∧h.nfam≤f)) (k:WaysAt mk e s h n0 f0 B F ws v):WaysAt mk e s h n0 f0 B' F' ws v:=by
 obtain ⟨cs,h1,h2⟩:=k
 refine ⟨cs,h1,fun i w hw => ?_⟩
 obtain ⟨kv,a1,a2⟩:=h2 i w hw
 exact ⟨kv,a1,a2.more (fun b hb c=>c.elim (fun c=>.inl (hB b hb c)) .inr) (fun f c=>c.elim (fun c=>(hF f c).elim (fun c=>.inl (.inl c)) .inr) (fun c=>.inl (.inr c)))⟩
theorem WaysAt.low {n0 f0 n1 f1:Nat} {ws:List Way} {v:Value} (k:WaysAt mk e s h n0 f0 B F ws v) (h1:n1≤n0) (h2:f1≤f0):WaysAt mk e s h n1 f1 B F ws v:=by
 obtain ⟨cs,k1,k2⟩:=k
 refine ⟨cs,?_,k2⟩
 rcases k1 with k1|⟨b,f,a2,a3,a4,a5,a6⟩
 ·exact .inl k1
 ·exact .inr ⟨b,f,a2,a3,a4,Nat.le_trans h1 a5,fun c=>Nat.le_trans h2 (a6 c)⟩
theorem WaysAt.get {n0 f0:Nat} {ws:List Way} {v:Value} (k:WaysAt mk e s h n0 f0 B F ws v) {i:Nat} {w:Way} (hi:ws[i]? = some w):∃b kv,v=.slice (some ⟨b,0,none⟩) ws.length ws.length∧h.loads ⟨b,i*s,none⟩ s=some (mk kv w.2)∧KidsAt h (fun x=>B x∨ownB v x) (fun q=>F q∨ownF h v q) w.1 kv:=by
 obtain ⟨cs,k1,k2⟩:=k
 obtain ⟨kv,a1,a2⟩:=k2 i w hi
 rcases k1 with ⟨h0,_⟩|⟨b,f,rfl,hr,_⟩
 ·have:=get_lt' hi;omega
 ·exact ⟨b,kv,rfl,by rw [rowE_loads hr,a1],a2⟩
theorem cells_allG (hs:0<s) {new:List Value} {n:Nat} (hl:new.length=n*s) (h:∀i,i<n→∃c:List Value,takeN (new.drop (i*s)) s=some c∧c.all oneCell=true):new.all oneCell=true:=by
 rw [List.all_eq_true]
 intro x hx
 obtain ⟨q,hq,rfl⟩:=List.mem_iff_getElem.1 hx
 have hi:q / s<n:=by
  rw [Nat.div_lt_iff_lt_mul hs]
  omega
 obtain ⟨c,h1,h2⟩:=h _ hi
 obtain ⟨_,p2⟩:=takeN_some _ _ _ h1
 have hm:new[q]∈c:=by
  rw [p2,List.mem_iff_getElem?]
  refine ⟨q % s,?_⟩
  rw [List.getElem?_take_of_lt (Nat.mod_lt _ hs),List.getElem?_drop,Nat.div_add_mod' q s,List.getElem?_eq_getElem hq]
 exact List.all_eq_true.1 h2 _ hm
set_option maxRecDepth 10000 in
theorem ways_append {t:TypeId} (A:ApT t e s) (M:MkW mk s) {n0 f0:Nat} {ws rs:List Way} {v w:Value} {new:List Value} (k:WaysAt mk e s h n0 f0 B F ws v) (hn:lenOf' w=some rs.length) (hf1:first' h s rs.length w=some new) (hnl:new.length=rs.length*s)
  (hr:∀(i:Nat) (w:Way),rs[i]? = some w→∃kv,takeN (new.drop (i*s)) s=some (mk kv w.2)∧KidsAt h (fun x=>B x∨ownB v x) (fun q=>F q∨ownF h v q) w.1 kv) (hb:h.base≤h.next) (hn0:n0≤h.next) (hf0:f0≤h.nfam) (hsz:ws.length+rs.length≤1000000) :
  ∃v' h',append' Try.prog h [t,t] [v,w]=some (v',h')∧WaysAt mk e s h' n0 f0 B F (ws++rs) v'∧(∀(S:Nat→Prop) (h0:Hp),ExtS S h0 h→h0.next≤n0→h0.nfam≤f0→ExtS S h0 h')∧Keeps (ownB v) (ownF h v) h h'∧(∀b' e' c',e'≠e→h.own b' e' c'→h'.own b' e' c') ∧
   (∀x,ownB v' x→ownB v x∨h.next≤x)∧(∀q,ownF h' v' q→ownF h v q∨h.nfam≤q)∧KeepsE (ownB v) (ownF h v) h h':=by
 have k0:=k
 obtain ⟨cs,k1,k2⟩:=k
 obtain ⟨z,hz,hzl⟩:=A.hz
 have hall:new.all oneCell=true:=cells_allG M.pos hnl (fun i hi=>by
  obtain ⟨kv,a1,a2⟩:=hr i _ (List.getElem?_eq_getElem hi)
  obtain ⟨A9,c9,rfl,_⟩:=a2.slice
  exact ⟨_,a1,M.one _ _ rfl⟩)
 obtain ⟨v',h',a1,a2,a3,a4,a5,a6,a7,a8⟩:=ownG_append A.hu A.hs hz hzl A.hby A.hni k1 hn hf1 hall hnl hb hn0 hf0 hsz
 have hcl:=k1.len
 have own0:¬ownF h v 0:=fun c=>(k0.flt c).1 rfl
 have move:∀{ks:List Part} {kv:Value},KidsAt h (fun x=>B x∨ownB v x) (fun q=>F q∨ownF h v q) ks kv→KidsAt h' (fun x=>B x∨ownB v' x) (fun q=>F q∨ownF h' v' q) ks kv:=by
  intro ks kv c
  have g1:=c.more (B':=fun x=>(B x∨ownB v x)∨ownB v' x) (F':=fun q=>(F q∨ownF h v q)∨ownF h' v' q) (fun b hb c=>by
   rcases c with c|c
   ·exact c
   ·rcases a5 b c with c|c
    ·exact .inr c
    ·omega) (fun q c=>by
   rcases c with c|c
   ·exact .inl c
   ·rcases a6 q c with d|d
    ·exact .inl (.inr d)
    ·exact .inr ⟨(a2.flt c).1,d⟩)
  have g2:=g1.keep (a4.mono (B':=fun x=>(B x∨ownB v x)∨ownB v' x) (F':=fun q=>(F q∨ownF h v q)∨ownF h' v' q) (fun b _ c=>.inl (.inr c)) (fun q _ _ c=>.inl (.inr c)) own0)
  exact g2.more (fun b _ c=>by
   rcases c with c|c
   ·exact .inl (.inl c)
   ·exact .inr c) (fun q c=>.inl (by
   rcases c with c|c
   ·exact .inl (.inl c)
   ·exact .inr c))
 refine ⟨v',h',a1,⟨cs++new,by rw [List.length_append];exact a2,fun i w hw => ?_⟩,a3,a4,a7,a5,a6,a8⟩
 by_cases c:i<ws.length
 ·rw [List.getElem?_append_left c] at hw
  obtain ⟨kv,b1,b2⟩:=k2 i w hw
  refine ⟨kv,?_,move b2⟩
  obtain ⟨q1,q2⟩:=takeN_some _ _ _ b1
  rw [List.length_drop] at q1
  have hle:i*s+s≤cs.length:=by
   have:s≤cs.length - i*s:=q1
   have:=M.pos
   omega
  rw [takeN_ok _ _ (by rw [List.length_drop,List.length_append];omega),q2]
  congr 1
  rw [List.drop_append_of_le_length (by omega),List.take_append_of_le_length (by rw [List.length_drop];omega)]
 ·rw [List.getElem?_append_right (by omega)] at hw
  obtain ⟨kv,b1,b2⟩:=hr _ w hw
  refine ⟨kv,?_,move b2⟩
  rw [←b1,List.drop_append,List.drop_eq_nil_of_le (by rw [hcl];exact Nat.mul_le_mul_right s (by omega)),List.nil_append,hcl,Nat.sub_mul]
theorem ways_all {t:TypeId} (A:ApT t e s) (M:MkW mk s) {n0 f0 m0 g0:Nat} {ws rs:List Way} {v w:Value} (k:WaysAt mk e s h n0 f0 B F ws v) (r:WaysAt mk e s h m0 g0 (fun x=>B x∨ownB v x) (fun q=>F q∨ownF h v q) rs w) (hb:h.base≤h.next) (hn0:n0≤h.next) (hf0:f0≤h.nfam) (hsz:ws.length+rs.length≤1000000) :
  ∃v' h',append' Try.prog h [t,t] [v,w]=some (v',h')∧WaysAt mk e s h' n0 f0 B F (ws++rs) v'∧(∀(S:Nat→Prop) (h0:Hp),ExtS S h0 h→h0.next≤n0→h0.nfam≤f0→ExtS S h0 h')∧Keeps (ownB v) (ownF h v) h h'∧(∀b' e' c',e'≠e→h.own b' e' c'→h'.own b' e' c') ∧
   (∀x,ownB v' x→ownB v x∨h.next≤x)∧(∀q,ownF h' v' q→ownF h v q∨h.nfam≤q)∧KeepsE (ownB v) (ownF h v) h h':=by
 obtain ⟨cs,r1,r2⟩:=r
 have hlen:=r1.len
 have hsl:=r1.slice
 obtain ⟨A9,hv9,_⟩:=hsl
 have hfirst:first' h s rs.length w=some cs:=by
  rcases r1 with ⟨h0,rfl,rfl⟩|⟨b,f,rfl,hr,hl,_⟩
  ·rw [h0];simp [first',Hp.loads]
  ·simp only [first',rowE_loads hr,List.drop_zero]
   rw [←hl]
   exact takeN_all _
 refine ways_append A M k (by rw [hv9];rfl) hfirst hlen (fun i w hw => ?_) hb hn0 hf0 hsz
 obtain ⟨kv,a1,a2⟩:=r2 i w hw
 exact ⟨kv,a1,a2.more (fun b _ c=>.inl c) (fun f c=>.inl (.inl c))⟩
theorem ways_one {t:TypeId} (A:ApT t e s) (M:MkW mk s) {n0 f0:Nat} {ws:List Way} {v:Value} {wb en:Nat} {ks:List Part} {kv:Value} (k:WaysAt mk e s h n0 f0 B F ws v) (hw:h.own wb e (mk kv en)) (hk:KidsAt h (fun x=>B x∨ownB v x) (fun q=>F q∨ownF h v q) ks kv) (hb:h.base≤h.next) (hn0:n0≤h.next) (hf0:f0≤h.nfam) (hsz:ws.length+1≤1000000) :
  ∃v' h',append' Try.prog h [t,t] [v,.slice (some ⟨wb,0,none⟩) 1 1]=some (v',h')∧WaysAt mk e s h' n0 f0 B F (ws++[(ks,en)]) v'∧(∀(S:Nat→Prop) (h0:Hp),ExtS S h0 h→h0.next≤n0→h0.nfam≤f0→ExtS S h0 h')∧Keeps (ownB v) (ownF h v) h h'∧(∀b' e' c',e'≠e→h.own b' e' c'→h'.own b' e' c') ∧
   (∀x,ownB v' x→ownB v x∨h.next≤x)∧(∀q,ownF h' v' q→ownF h v q∨h.nfam≤q)∧KeepsE (ownB v) (ownF h v) h h':=by
 refine ways_append A M (rs:=[(ks,en)]) (new:=mk kv en) k rfl ?_ (by rw [M.len];simp) (fun i w hwi => ?_) hb hn0 hf0 hsz
 ·show first' h s 1 _=_
  simp only [first',loads_own hw,List.drop_zero,Nat.one_mul]
  have:=takeN_all (mk kv en)
  rw [M.len] at this
  exact this
 ·have:i=0:=by have:=get_lt' hwi;simpa using this
  subst this
  simp at hwi
  subst hwi
  refine ⟨kv,?_,hk⟩
  have:=takeN_all (mk kv en)
  rw [M.len] at this
  simpa using this
theorem ways_new (M:MkW mk s) {b en:Nat} {ks:List Part} {kv:Value} {n0 f0:Nat} (o:h.own b e (mk kv en)) (hb:n0≤b) (hBb:KidsAt h (fun x=>B x∨x=b) F ks kv):WaysAt mk e s h n0 f0 B F [(ks,en)] (.slice (some ⟨b,0,none⟩) 1 1):=by
 have hr:RowE e h b (mk kv en) 0:=⟨o.1,o.2.1,⟨0,false,row_own o⟩,fun c=>absurd rfl c⟩
 refine ⟨mk kv en,.inr ⟨b,0,rfl,hr,by rw [M.len];simp,hb,fun c=>absurd rfl c⟩,fun i w hwi => ?_⟩
 have:i=0:=by have:=get_lt' hwi;simpa using this
 subst this
 simp at hwi
 subst hwi
 refine ⟨kv,?_,hBb.more (fun b _ c=>c) (fun f c=>.inl (c.elim id (fun c=>absurd ((ownF_eqE hr f).1 c) (fun c=>c.2 rfl))))⟩
 have:=takeN_all (mk kv en)
 rw [M.len] at this
 simpa using this
def Beside (h:Hp) (v u:Value):Prop:=(∀b,ownB v b→¬ownB u b)∧∀f,ownF h v f→¬ownF h u f
theorem WaysAt.beside {h':Hp} {n0 f0:Nat} {ws:List Way} {v u u':Value} (k:WaysAt mk e s h n0 f0 (fun x=>B x∨ownB u x) (fun q=>F q∨ownF h u q) ws v) (D:Beside h v u) (hu0:¬ownF h u 0) (kp:Keeps (ownB u) (ownF h u) h h') (ke:KeepsE (ownB u) (ownF h u) h h') (hB:∀x,ownB u' x→ownB u x∨h.next≤x) (hF:∀q,ownF h' u' q→ownF h u q∨h.nfam≤q) (hF0:∀q,ownF h' u' q→q≠0) :
  WaysAt mk e s h' n0 f0 (fun x=>B x∨ownB u' x) (fun q=>F q∨ownF h' u' q) ws v∧Beside h' v u':=by
 have k0:=k
 obtain ⟨cs,k1,k2⟩:=k
 have hown:OwnG e s h' n0 f0 ws.length cs v∧∀q,ownF h' v q→ownF h v q:=by
  rcases k1 with ⟨h0,rfl,rfl⟩|⟨b,f,rfl,hr,hl,hb,hf⟩
  ·exact ⟨.inl ⟨h0,rfl,rfl⟩,fun q c=>c.elim⟩
  ·have hnf:¬ownF h u f:=by
    intro c
    by_cases hf0':f=0
    ·subst hf0';exact hu0 c
    ·exact D.2 f ((ownF_eqE hr f).2 ⟨rfl,hf0'⟩) c
   have hr':=ke _ _ _ _ hr (D.1 b rfl) hnf
   exact ⟨.inr ⟨b,f,rfl,hr',hl,hb,hf⟩,fun q c=>(ownF_eqE hr q).2 ((ownF_eqE hr' q).1 c)⟩
 refine ⟨⟨cs,hown.1,fun i w hw => ?_⟩,fun b c c' => ?_,fun f c c' => ?_⟩
 ·obtain ⟨kv,a1,a2⟩:=k2 i w hw
  refine ⟨kv,a1,?_⟩
  have g1:=a2.more (B':=fun x=>((B x∨ownB u x)∨ownB v x)∨ownB u' x) (F':=fun q=>((F q∨ownF h u q)∨ownF h v q)∨ownF h' u' q) (fun b hb c=>by
   rcases c with c|c
   ·exact c
   ·rcases hB b c with c|c
    ·exact .inl (.inr c)
    ·omega) (fun q c=>by
   rcases c with c|c
   ·exact .inl c
   ·rcases hF q c with d|d
    ·exact .inl (.inl (.inr d))
    ·exact .inr ⟨hF0 q c,d⟩)
  have g2:=g1.keep (kp.mono (B':=fun x=>((B x∨ownB u x)∨ownB v x)∨ownB u' x) (F':=fun q=>((F q∨ownF h u q)∨ownF h v q)∨ownF h' u' q) (fun b _ c=>.inl (.inl (.inr c))) (fun q _ _ c=>.inl (.inl (.inr c))) hu0)
  exact g2.more (fun b _ c=>by
   rcases c with (c|c)|c
   ·exact .inl (.inl (.inl c))
   ·exact .inr c
   ·exact .inl (.inr c)) (fun q c=>.inl (by
   rcases c with (c|c)|c
   ·exact .inl (.inl (.inl c))
   ·exact .inr c
   ·exact .inl (.inr (hown.2 q c))))
 ·rcases hB b c' with d|d
  ·exact D.1 b c d
  ·have:=(k0.lt c).2;omega
 ·rcases hF f c' with d|d
  ·exact D.2 f (hown.2 f c) d
  ·have:=(k0.flt (hown.2 f c)).2.2;omega
def encP (kv:Value) (e:Nat):List Value:=[.bool true,.int .i64 (e:Int),kv]
def encR (kv:Value) (e:Nat):List Value:=[kv,.int .i64 (e:Int)]
theorem mkP:MkW encP 3:=⟨fun _ _=>rfl,fun kv e h=>by simp only [encP,List.all_cons,List.all_nil,h];rfl,by decide⟩
theorem mkR:MkW encR 2:=⟨fun _ _=>rfl,fun kv e h=>by simp only [encR,List.all_cons,List.all_nil,h];rfl,by decide⟩
theorem apP:ApT 93 75 3:=⟨Try.underlying93,sz75,⟨_,z75,by exact ⟨rfl,by decide⟩⟩,by kernel_rfl,by kernel_rfl⟩
theorem apR:ApT 82 85 2:=⟨Try.underlying82,sz85,⟨_,z85,by exact ⟨rfl,by decide⟩⟩,by kernel_rfl,by kernel_rfl⟩
end Go.Ev.G24
end
section
namespace Go.Ev.G24
open Go.RowKit Go.Proofs
variable {h h1 h2:Hp} {B F B' F':Nat→Prop}
theorem ap29:ApT 29 31 3:=⟨Try.underlying29,sz31,⟨_,z31,by exact ⟨rfl,by decide⟩⟩,by kernel_rfl,by kernel_rfl⟩
def KidsO (h:Hp) (n0 f0:Nat) (B F:Nat→Prop) (l:List Part) (v:Value):Prop:=∃(cs:List Value) (css:Nat→List Value),OwnG 31 3 h n0 f0 l.length cs v∧(∀(i:Nat) (p:Part),l[i]? = some p→takeN (cs.drop (i*3)) 3=some (css i)) ∧
 ∀(i:Nat) (p:Part),l[i]? = some p→TreeAt h (fun x=>B x∨ownB v x) (fun q=>F q∨ownF h v q) p (css i)
theorem KidsO.kids {n0 f0:Nat} {l:List Part} {v:Value} (k:KidsO h n0 f0 B F l v) (hB:∀b,B b→b<n0) (hF:∀f,F f→f≠0∧f<f0):KidsAt h B F l v:=by
 obtain ⟨cs,css,k1,k2,k3⟩:=k
 rcases k1 with ⟨h0,rfl,rfl⟩|⟨b,f,rfl,hr,hl,hb,hf⟩
 ·have:l=[]:=List.length_eq_zero_iff.1 h0
  subst this
  exact KidsAt.nil
 ·refine ⟨_,_,b,0,f,cs,css,rfl,Nat.le_refl _,rfl,fun _=>⟨rfl,⟨hr.lo,hr.lt,hr.row,hr.fl⟩,fun c=>by have:=hB _ c;omega,fun c=>by
   have:=hF _ c
   have:=hf this.1
   omega⟩,fun i p hp=>by rw [Nat.zero_add];exact k2 i p hp,fun i p hp=>(k3 i p hp).more (fun x _ c=>.inl c) (fun q c=>.inl (.inl c))⟩
set_option maxRecDepth 10000 in
theorem trees_append {n0 f0:Nat} {l ks:List Part} {v w:Value} (k:KidsO h n0 f0 B F l v) (K:KidsAt h (fun x=>B x∨ownB v x) (fun q=>F q∨ownF h v q) ks w) (hb:h.base≤h.next) (hn0:n0≤h.next) (hf0:f0≤h.nfam) (hsz:l.length+ks.length≤1000000) :
  ∃v' h',append' Try.prog h [29,29] [v,w]=some (v',h')∧KidsO h' n0 f0 B F (l++ks) v'∧(∀(S:Nat→Prop) (h0:Hp),ExtS S h0 h→h0.next≤n0→h0.nfam≤f0→ExtS S h0 h')∧Keeps (ownB v) (ownF h v) h h'∧(∀b' e' c',e'≠31→h.own b' e' c'→h'.own b' e' c'):=by
 have A:=ap29
 obtain ⟨z,hz,hzl⟩:=A.hz
 obtain ⟨cs,css,k1,k2,k3⟩:=k
 have hcl:=k1.len
 have own0:¬ownF h v 0:=fun c=>(k1.flt c).1 rfl
 have core:∀(new:List Value) (cn:Nat→List Value),lenOf' w=some ks.length→first' h 3 ks.length w=some new→new.length=ks.length*3→new.all oneCell=true→(∀i:Nat,i<ks.length→takeN (new.drop (i*3)) 3=some (cn i))→(∀(i:Nat) (p:Part),ks[i]? = some p→TreeAt h (fun x=>B x∨ownB v x) (fun q=>F q∨ownF h v q) p (cn i)) →
   ∃v' h',append' Try.prog h [29,29] [v,w]=some (v',h')∧KidsO h' n0 f0 B F (l++ks) v'∧(∀(S:Nat→Prop) (h0:Hp),ExtS S h0 h→h0.next≤n0→h0.nfam≤f0→ExtS S h0 h')∧Keeps (ownB v) (ownF h v) h h'∧(∀b' e' c',e'≠31→h.own b' e' c'→h'.own b' e' c'):=by
  intro new cn q1 q2 q3 q4 q5 q6
  obtain ⟨v',h',a1,a2,a3,a4,a5,a6,a7,_⟩:=ownG_append A.hu A.hs hz hzl A.hby A.hni k1 q1 q2 q4 q3 hb hn0 hf0 hsz
  have move:∀{p:Part} {c:List Value},TreeAt h (fun x=>B x∨ownB v x) (fun q=>F q∨ownF h v q) p c→TreeAt h' (fun x=>B x∨ownB v' x) (fun q=>F q∨ownF h' v' q) p c:=by
   intro p c t
   have g1:=t.more (B':=fun x=>(B x∨ownB v x)∨ownB v' x) (F':=fun q=>(F q∨ownF h v q)∨ownF h' v' q) (fun b hb c=>by
    rcases c with c|c
    ·exact c
    ·rcases a5 b c with c|c
     ·exact .inr c
     ·omega) (fun q c=>by
    rcases c with c|c
    ·exact .inl c
    ·rcases a6 q c with d|d
     ·exact .inl (.inr d)
     ·exact .inr ⟨(a2.flt c).1,d⟩)
   have g2:=g1.keep (a4.mono (B':=fun x=>(B x∨ownB v x)∨ownB v' x) (F':=fun q=>(F q∨ownF h v q)∨ownF h' v' q) (fun b _ c=>.inl (.inr c)) (fun q _ _ c=>.inl (.inr c)) own0)
   exact g2.more (fun b _ c=>by
    rcases c with c|c
    ·exact .inl (.inl c)
    ·exact .inr c) (fun q c=>.inl (by
    rcases c with c|c
    ·exact .inl (.inl c)
    ·exact .inr c))
  refine ⟨v',h',a1,⟨cs++new,fun i=>if i<l.length then css i else cn (i - l.length),by rw [List.length_append];exact a2,fun i p hp => ?_,fun i p hp => ?_⟩,a3,a4,a7⟩
  ·by_cases c:i<l.length
   ·rw [List.getElem?_append_left c] at hp
    have:=k2 i p hp
    obtain ⟨r1,r2⟩:=takeN_some _ _ _ this
    simp only [if_pos c]
    rw [List.length_drop] at r1
    rw [takeN_ok _ _ (by rw [List.length_drop,List.length_append];omega),r2]
    congr 1
    rw [List.drop_append_of_le_length (by omega),List.take_append_of_le_length (by rw [List.length_drop];omega)]
   ·rw [List.getElem?_append_right (by omega)] at hp
    simp only [if_neg c]
    have:=q5 (i - l.length) (get_lt' hp)
    rw [←this,List.drop_append,List.drop_eq_nil_of_le (by rw [hcl];omega),List.nil_append,hcl,show i*3 - l.length*3=(i - l.length)*3 by omega]
  ·by_cases c:i<l.length
   ·rw [List.getElem?_append_left c] at hp
    simp only [if_pos c]
    exact move (k3 i p hp)
   ·rw [List.getElem?_append_right (by omega)] at hp
    simp only [if_neg c]
    exact move (q6 _ p hp)
 by_cases hks:ks=[]
 ·subst hks
  obtain ⟨q1,q2⟩:=K.none
  exact core [] (fun _=>[]) q1 q2 rfl rfl (fun i hi=>absurd hi (Nat.not_lt_zero _)) (fun i p hp=>by simp at hp)
 ·obtain ⟨new,cn,q1,q2,q3,q4,q5,q6⟩:=K.cells hks
  exact core new cn q1 q2 q3 q4 q5 q6
def OldB (h:Hp):Nat→Prop:=fun b=>b<h.next
def OldF (h:Hp):Nat→Prop:=fun f=>f≠0∧f<h.nfam
theorem empt_own (hb:h.base≤h.next):KidsO (h.newH (CObj.cells ⟨[],31,0,0,false⟩)) h.next h.nfam (OldB h) (OldF h) [] (.slice (some ⟨h.next,0,none⟩) 0 0):=by
 have o:=own_new hb 31 []
 exact ⟨[],fun _=>[],.inr ⟨h.next,0,rfl,⟨o.1,o.2.1,⟨0,false,row_own o⟩,fun c=>absurd rfl c⟩,rfl,Nat.le_refl _,fun c=>absurd rfl c⟩,fun i p hp=>by simp at hp,fun i p hp=>by simp at hp⟩
theorem nil_own {n0 f0:Nat}:KidsO h n0 f0 B F [] (.slice none 0 0):=⟨[],fun _=>[],.inl ⟨rfl,rfl,rfl⟩,fun i p hp=>by simp at hp,fun i p hp=>by simp at hp⟩
theorem old_kids {h0:Hp} {n0 f0:Nat} {l:List Part} {cs:List Value} {v:Value} {n:Nat} (k:OwnG 31 3 h n0 f0 n cs v) (hn:h0.next≤n0) (hf:h0.nfam≤f0) {ks:List Part} {kv:Value} (x:Ext h0 h) (K:KidsAt h0 B F ks kv):KidsAt h (fun x=>B x∨ownB v x) (fun q=>F q∨ownF h v q) ks kv :=
 (K.more (B':=fun x=>B x∨ownB v x) (F':=fun q=>F q∨ownF h v q) (fun b hb c=>c.elim id (fun c=>by have:=(k.lt c).1;omega)) (fun f c=>c.elim .inl (fun c=>.inr ⟨(k.flt c).1,by have:=(k.flt c).2.1;omega⟩))).keep (keepsE x).any
theorem join_two {he:Hp} {ka kb:List Part} {v0 va vb:Value} (x0:Ext h he) (hb:he.base≤he.next) (hv0:KidsO he h.next h.nfam (OldB h) (OldF h) [] v0) (Ka:KidsAt h B F ka va) (Kb:KidsAt h B F kb vb) (hBn:∀b,B b→b<h.next) (hFn:∀f,F f→f≠0∧f<h.nfam) (hs:ka.length+kb.length≤1000000) :
  ∃v1 h1 v2 h2,append' Try.prog he [29,29] [v0,va]=some (v1,h1)∧append' Try.prog h1 [29,29] [v1,vb]=some (v2,h2)∧Ext h h1∧Ext h h2∧KidsAt h2 B F (ka++kb) v2:=by
 have weak:∀{h':Hp} {l:List Part} {v:Value},KidsO h' h.next h.nfam (OldB h) (OldF h) l v→KidsO h' h.next h.nfam B F l v:=by
  rintro h' l v ⟨cs,css,k1,k2,k3⟩
  exact ⟨cs,css,k1,k2,fun i p hp=>(k3 i p hp).more (fun b _ c=>c.elim (fun c=>.inl (hBn b c)) .inr) (fun f c=>.inl (c.elim (fun c=>.inl (hFn f c)) .inr))⟩
 have w0:=weak hv0
 obtain ⟨cs0,css0,g1,g2,g3⟩:=w0
 obtain ⟨v1,h1,a1,a2,a3,a4,a5⟩:=trees_append ⟨cs0,css0,g1,g2,g3⟩ (old_kids g1 (Nat.le_refl _) (Nat.le_refl _) (l:=[]) x0 Ka) hb x0.next x0.nfam (by simp;omega)
 have x1:Ext h h1:=(a3 (fun _=>False) h x0.toS (Nat.le_refl _) (Nat.le_refl _)).ext (fun _ _ c=>c)
 have hb1:h1.base≤h1.next:=by rw [x1.base,←x0.base];exact Nat.le_trans hb a4.next
 rw [List.nil_append] at a2
 obtain ⟨cs1,css1,k1,k2,k3⟩:=a2
 obtain ⟨v2,h2,b1,b2,b3,b4,b5⟩:=trees_append ⟨cs1,css1,k1,k2,k3⟩ (old_kids k1 (Nat.le_refl _) (Nat.le_refl _) (l:=[]) x1 Kb) hb1 x1.next x1.nfam hs
 have x2:Ext h h2:=(b3 (fun _=>False) h x1.toS (Nat.le_refl _) (Nat.le_refl _)).ext (fun _ _ c=>c)
 exact ⟨v1,h1,v2,h2,a1,b1,x1,x2,b2.kids hBn hFn⟩
end Go.Ev.G24
end
section
namespace Go.Ev.G24
open Go.RowKit Go.Proofs
variable {r:Ro} {G:List Rule} {items:List ByteArray} {Gv Iv:Option Addr} {gc ic xb:Nat}
def wR (G:List Rule) (items:List ByteArray) (Gv Iv:Option Addr) (gc ic:Nat) (s:Int):List Value:=[.slice Gv G.length gc,.slice Iv items.length ic,.int .i64 s]
def lowW (s:Int):Int:=if s<0 then s - 1 else -((s+1)*200001)
def deadW (N:Nat) (s:Int) (ws:List Way):Prop:=(s<0→ws=[])∧ws.length≤2*(s.toNat+1)∧okH N (s.toNat+1) ws
abbrev WR (h:Hp) (n0 f0:Nat) (B F:Nat→Prop) (ws:List Way) (v:Value):Prop:=WaysAt encR 85 2 h n0 f0 B F ws v
def WalkP (G:List Rule) (items:List ByteArray) (Gv Iv:Option Addr) (gc ic xb:Nat) (t:TaskW) (s lb:Int) (h:Hp) (v:Value) (h1:Hp):Prop:=∃(s':Int) (ws:List Way),ExtS (Only xb) h h1∧h1.own xb 81 (wR G items Gv Iv gc ic s')∧WR h1 h.next h.nfam (OldB h) (OldF h) ws v ∧
 ((∃k o,runW G items k t=some o∧s'=s - (o.2.1:Int) - (o.2.2:Int)∧0≤s'∧ws=o.1)∨(s'<0∧lb≤s'∧deadW items.length s ws))
theorem WaysAt.getR {h:Hp} {n0 f0:Nat} {B F:Nat→Prop} {ws:List Way} {v:Value} (k:WR h n0 f0 B F ws v) {i:Nat} {w:Way} (hi:ws[i]? = some w):∃b A c,v=.slice (some ⟨b,0,none⟩) ws.length ws.length∧spotless A=true∧KidsAt h (fun x=>B x∨ownB v x) (fun q=>F q∨ownF h v q) w.1 (.slice A w.1.length c) ∧
  ∀h1,Ext h h1→h1.load ⟨b,i*2,none⟩=some (.slice A w.1.length c)∧h1.load ⟨b,i*2+1,none⟩=some (.int .i64 (w.2:Int)):=by
 obtain ⟨cs,k1,k2⟩:=k
 obtain ⟨kv,a1,a2⟩:=k2 i w hi
 obtain ⟨A,c,rfl,hsp⟩:=a2.slice
 rcases k1 with ⟨h0,_⟩|⟨b,f,rfl,hr,_⟩
 ·have:=get_lt' hi;omega
 ·refine ⟨b,A,c,rfl,hsp,a2,fun h1 x => ?_⟩
  have hr1:=rowE_keep (S:=fun _=>False) x.toS hr (fun c=>c)
  obtain ⟨q1,q2⟩:=takeN_some _ _ _ a1
  have g0:(cs.drop (i*2))[0]? = some (.slice A w.1.length c):=by
   have:=congrArg (fun l=>l[0]?) q2
   simp only [encR,List.getElem?_cons_zero] at this
   rw [List.getElem?_take_of_lt (by decide)] at this
   exact this.symm
  have g1:(cs.drop (i*2))[1]? = some (.int .i64 (w.2:Int)):=by
   have:=congrArg (fun l=>l[1]?) q2
   simp only [encR,List.getElem?_cons_zero,List.getElem?_cons_succ] at this
   rw [List.getElem?_take_of_lt (by decide)] at this
   exact this.symm
  rw [List.getElem?_drop] at g0 g1
  exact ⟨by rw [rowE_load hr1];exact g0,by rw [rowE_load hr1];exact g1⟩
theorem Beside.ext {h h1:Hp} {e1 e2:TypeId} {s1 s2 n0 f0 n1 f1:Nat} {mk1 mk2:Value→Nat→List Value} {B F B2 F2:Nat→Prop} {ws us:List Way} {v u:Value} (x:Ext h h1) (kv:WaysAt mk1 e1 s1 h n0 f0 B F ws v) (ku:WaysAt mk2 e2 s2 h n1 f1 B2 F2 us u) (D:Beside h v u):Beside h1 v u :=
 ⟨D.1,fun f c c'=>D.2 f (kv.ownF_same (S:=fun _=>False) x.toS (fun _ _ c=>c) c) (ku.ownF_same (S:=fun _=>False) x.toS (fun _ _ c=>c) c')⟩
theorem WaysAt.extF {h h1:Hp} {e1 e2:TypeId} {s1 s2 n0 f0 n1 f1:Nat} {mk1 mk2:Value→Nat→List Value} {B F B2 F2:Nat→Prop} {ws us:List Way} {v u:Value} (x:Ext h h1) (ku:WaysAt mk2 e2 s2 h n1 f1 B2 F2 us u) (kv:WaysAt mk1 e1 s1 h n0 f0 (fun y=>B y∨ownB u y) (fun q=>F q∨ownF h u q) ws v):WaysAt mk1 e1 s1 h1 n0 f0 (fun y=>B y∨ownB u y) (fun q=>F q∨ownF h1 u q) ws v :=
 (kv.ext x).more (fun b _ c=>c) (fun f c=>.inl (c.elim .inl (fun c=>.inr (ku.ownF_same (S:=fun _=>False) x.toS (fun _ _ c=>c) c))))
set_option maxHeartbeats 8000000 in
set_option maxRecDepth 10000 in
theorem walk_inner71 {h0 hs:Hp} {nh fh nr fr:Nat} {wo wh wr:List Way} {vo vh vr:Value} {ks:List Part} {en i:Nat} {z:Int} (hb:h0.base≤h0.next) (hx:ExtS (Only xb) h0 hs) (hX:hs.own xb 81 (wR G items Gv Iv gc ic z)) (hxn:xb<h0.next)
  (hO:WR hs h0.next h0.nfam (OldB h0) (OldF h0) wo vo) (hH:WR hs nh fh (fun x=>OldB h0 x∨ownB vo x) (fun q=>OldF h0 q∨ownF hs vo q) wh vh) (hDH:Beside hs vh vo) (hR:WR hs nr fr (fun x=>OldB h0 x∨ownB vo x) (fun q=>OldF h0 q∨ownF hs vo q) wr vr) (hDR:Beside hs vr vo)
  (hi:wh[i]? = some (ks,en)) (hks:ks.length≤200000) (hrs:∀w∈wr,w.1.length≤200000) (hlen:wo.length+wr.length≤500000)
  {a:Ev.A} {Q:Ex→Ev.A→Hp→Prop} {x0 x1:Value} (hn:a.n=84) (g0:a.get 0=x0) (g1:a.get 1=x1) (g7:a.get 7=vo) (g8:a.get 8=vh) (g9:a.get 9=.int .i64 (i:Int)) (g10:a.get 10=vr) (g11:a.get 11=.int .i64 0)
  (hq:∀a1 h1 vo',a1.n=84→ExtS (Only xb) h0 h1→hs.next≤h1.next→h1.own xb 81 (wR G items Gv Iv gc ic z)→WR h1 h0.next h0.nfam (OldB h0) (OldF h0) (wo++consW ks wr) vo'→WR h1 nh fh (fun x=>OldB h0 x∨ownB vo' x) (fun q=>OldF h0 q∨ownF h1 vo' q) wh vh→Beside h1 vh vo'→a1.get 0=x0→a1.get 1=x1→a1.get 7=vo'→a1.get 8=vh→a1.get 9=.int .i64 (i:Int)→a1.get 10=vr→Q (.exit 2) a1 h1) :
  Th Try.prog (bodyAt Try.f71 [1,1,1,1,0,1,0,0,1,0,0,1,0,1,0]) a hs Q ⟨⟩ ⟨⟩:=by
 obtain ⟨Ar,hvr,hspr⟩:=hR.slice
 have hcons:∀j,consW ks (wr.take (j+1))=consW ks (wr.take j)++(match wr[j]? with|some w=>[(ks++w.1,w.2)]|none=>[]):=by
  intro j
  unfold consW
  cases hj:wr[j]? with
  | none =>
    have:=List.getElem?_eq_none_iff.1 hj
    rw [List.take_of_length_le (by omega),List.take_of_length_le (by omega)];simp
  | some w =>
    have hl:=get_lt' hj
    rw [List.take_succ_eq_append_getElem hl,List.map_append]
    rw [List.getElem?_eq_getElem hl] at hj
    injection hj with hj
    rw [hj];rfl
 simp only [bodyAt,nav,Try.f71]
 refine loop_go (n:=84) (by kernel_rfl) (fun m' a' h'=>∃(j:Nat) (v:Value),j≤wr.length∧m'=wr.length - j∧ExtS (Only xb) h0 h'∧hs.next≤h'.next∧h'.own xb 81 (wR G items Gv Iv gc ic z)∧WR h' h0.next h0.nfam (OldB h0) (OldF h0) (wo++consW ks (wr.take j)) v∧WR h' nh fh (fun x=>OldB h0 x∨ownB v x) (fun q=>OldF h0 q∨ownF h' v q) wh vh∧Beside h' vh v∧WR h' nr fr (fun x=>OldB h0 x∨ownB v x) (fun q=>OldF h0 q∨ownF h' v q) wr vr∧Beside h' vr v ∧
  a'.get 0=x0∧a'.get 1=x1∧a'.get 7=v∧a'.get 8=vh∧a'.get 9=.int .i64 (i:Int)∧a'.get 10=vr∧a'.get 11=.int .i64 j) ?_ wr.length _ _ hn ⟨0,vo,Nat.zero_le _,rfl,hx,Nat.le_refl _,hX,by simpa [consW] using hO,hH,hDH,hR,hDR,g0,g1,g7,g8,g9,g10,g11⟩
 rintro m' a' h' hn' ⟨j,v,hj,rfl,hx',hnx',hX',hO',hH',hDH',hR',hDR',e0,e1,e7,e8,e9,e10,e11⟩
 have hb':h'.base≤h'.next:=ext_bn hx' hb
 by_cases hlt:j<wr.length
 ·have hwj:wr[j]? = some wr[j]:=List.getElem?_eq_getElem hlt
  have hi1:decide ((j:Int)<(wr.length:Int))=true:=decide_eq_true (Int.ofNat_lt.2 hlt)
  obtain ⟨bh,Ah,ch,hvh,hsph,Kh,ldh⟩:=hH'.getR hi
  obtain ⟨br,Ark,crk,hvr2,hsprk,Kr,ldr⟩:=hR'.getR hwj
  have hih:i<wh.length:=get_lt' hi
  have x1:=Ext.new h' (CObj.cells ⟨[],31,0,0,false⟩)
  have hlo:wo.length+(consW ks (wr.take j)).length+1≤1000000:=by
   unfold consW
   rw [List.length_map,List.length_take]
   omega
  obtain ⟨v1,h1,v2,h2,j1,j2,j3,j4,j5⟩:=join_two (B:=fun x=>OldB h0 x∨ownB v x) (F:=fun q=>OldF h0 q∨ownF h' v q) x1 (Nat.le_succ_of_le hb') (empt_own hb') (Kh.more (fun b _ c=>.inl c) (fun f c=>.inl (.inl c))) (Kr.more (fun b _ c=>.inl c) (fun f c=>.inl (.inl c))) (fun b c=>c.elim (fun c=>Nat.lt_of_lt_of_le c hx'.next) (fun c=>(hO'.lt c).2)) (fun f c=>c.elim (fun c=>⟨c.1,Nat.lt_of_lt_of_le c.2 hx'.nfam⟩) (fun c=>⟨(hO'.flt c).1,(hO'.flt c).2.2⟩)) (by
   have:=hrs _ (List.mem_of_getElem? hwj)
   show ks.length+_≤_
   omega)
  obtain ⟨A2,c2,hv2,hsp2⟩:=j5.slice
  have hb2:h2.base≤h2.next:=by rw [j4.base];exact Nat.le_trans hb' j4.next
  have hW:=own_new hb2 85 (encR v2 wr[j].2)
  have x3:=Ext.new h2 (CObj.cells { c:=encR v2 wr[j].2,e:=85,fam:=0,base:=0,grown:=false })
  have x03:=j4.trans x3
  have hO3:=hO'.ext x03
  have hb3:(h2.newH (CObj.cells { c:=encR v2 wr[j].2,e:=85,fam:=0,base:=0,grown:=false })).base≤(h2.newH (CObj.cells { c:=encR v2 wr[j].2,e:=85,fam:=0,base:=0,grown:=false })).next:=by rw [x3.base];exact Nat.le_trans hb2 x3.next
  have K3:KidsAt (h2.newH (CObj.cells { c:=encR v2 wr[j].2,e:=85,fam:=0,base:=0,grown:=false })) (fun x=>OldB h0 x∨ownB v x) (fun q=>OldF h0 q∨ownF (h2.newH (CObj.cells { c:=encR v2 wr[j].2,e:=85,fam:=0,base:=0,grown:=false })) v q) (ks++wr[j].1) v2 :=
   (j5.keep (keepsE x3).any).more (fun b _ c=>c) (fun f c=>.inl (c.elim .inl (fun c=>.inr (hO'.ownF_same (S:=fun _=>False) x03.toS (fun _ _ c=>c) c))))
  have hxh:ExtS (Only xb) h0 _:=hx'.trans x03.toS
  obtain ⟨v',h4,a4,hO4,hext4,hkp4,hoth4,hB4,hF4,hke4⟩:=ways_one apR mkR hO3 hW K3 hb3 hxh.next hxh.nfam (by rw [List.length_append];exact hlo)
  have hx4:=hext4 (Only xb) h0 hxh (Nat.le_refl _) (Nat.le_refl _)
  have hu0:¬ownF _ v 0:=fun c=>(hO3.flt c).1 rfl
  obtain ⟨hH4,hDH4⟩:=(hO'.extF x03 hH').beside (hDH'.ext x03 hH' hO') hu0 hkp4 hke4 hB4 hF4 (fun q c=>(hO4.flt c).1)
  obtain ⟨hR4,hDR4⟩:=(hO'.extF x03 hR').beside (hDR'.ext x03 hR' hO') hu0 hkp4 hke4 hB4 hF4 (fun q c=>(hO4.flt c).1)
  obtain ⟨lh0,_⟩:=ldh _ (Ext.refl h')
  obtain ⟨lh1,_⟩:=ldh _ x1
  obtain ⟨lr0,le0⟩:=ldr _ (Ext.refl h')
  obtain ⟨lr1,le1⟩:=ldr _ x1
  obtain ⟨lr2,le2⟩:=ldr _ j3
  obtain ⟨lr3,le3⟩:=ldr _ j4
  rw [hvh] at e8
  rw [hvr2] at e10
  rw [hv2] at a4 j2
  unfold encR at a4
  obtain ⟨Ao,hvo,hspo⟩:=hO'.slice
  obtain ⟨An,hvn,hspn⟩:=hO4.slice
  rw [hvo] at e7 a4
  rw [hvn] at a4
  simp -dsimp only [go_sem,e0,e1,e7,e8,e9,e10,e11,hi1]
  refine Dw_text (n:=84) [[],[],[],[],[2,3],[2,3,4],[2,3,4,5],[1,2,3,4,5,6],[],[],[8,9],[8,9,10],[8,9,10,11],[1,2,3,4,5,6,7,8,9,10,11,12],[],[],[14,15],[14,15,16],[14,15,16,17],[1,2,3,4,5,6,7,8,9,10,11,12,13,14,15,16,17,18],[1,2,3,4,5,6,7,8,9,10,11,12,13,14,15,16,17,18,19],[0,1,2,3,4,5,6,7,8,9,10,11,12,13,14,15,16,17,18,19,20],[0,1,2,3,4,5,6,7,8,9,10,11,12,13,14,15,16,17,18,19,20,21]] (by simp -dsimp only [go_sem,hn']) (by kernel_rfl) ?_
  simp -dsimp only [go_sem,e0,e1,e7,e8,e9,e10,e11,bs29 0 (by decide),bs82 1 (by decide),repeatN,ia82 hih,ia82 hlt,lh0,lh1,lr0,lr1,lr2,lr3,le0,le1,le2,le3,sameN_sliceA hspo,sameN_sliceA hspn,sameN_sliceA hsp2,sameN_sliceA hsph,sameN_sliceA hsprk,builtin',j1,j2,a4,wrap64_succ hlt (by omega)]
  refine ⟨wr.length - (j+1),by omega,j+1,v',hlt,rfl,hx4,?_,hoth4 _ _ _ (by decide) (own_ext x03 hX'),?_,hH4,hDH4,hR4,hDR4,?_⟩
  ·exact Nat.le_trans hnx' (Nat.le_trans x03.next hkp4.next)
  ·rw [hcons j,hwj,←List.append_assoc];exact hO4
  ·exact ⟨hvn.symm,hvh.symm,hvr2.symm,rfl⟩
 ·have hi0:decide ((j:Int)<(wr.length:Int))=false:=decide_eq_false (by omega)
  have hjl:j=wr.length:=by omega
  subst hjl
  rw [List.take_length] at hO'
  rw [hvr] at e10
  simp -dsimp only [go_sem,e0,e1,e7,e8,e9,e10,e11,hi0]
  exact hq _ h' v (by simp -dsimp only [go_sem,hn']) hx' hnx' hX' hO' hH' hDH' (by simp -dsimp only [go_sem,e0]) (by simp -dsimp only [go_sem,e1]) (by simp -dsimp only [go_sem,e7]) (by simp -dsimp only [go_sem,e8]) (by simp -dsimp only [go_sem,e9]) (by rw [hvr];simp -dsimp only [go_sem,e10])
set_option maxHeartbeats 8000000 in
set_option maxRecDepth 10000 in
theorem walk_inner72 {h0 hs:Hp} {nh fh nr fr:Nat} {wo wh wr:List Way} {vo vh vr:Value} {ks:List Part} {en i:Nat} {z:Int} {pb:Nat} {pc:List Value} (hb:h0.base≤h0.next) (hx:ExtS (Only xb) h0 hs) (hX:hs.own xb 81 (wR G items Gv Iv gc ic z)) (hxn:xb<h0.next) (hP:hs.own pb 52 pc)
  (hO:WR hs h0.next h0.nfam (OldB h0) (OldF h0) wo vo) (hH:WR hs nh fh (fun x=>OldB h0 x∨ownB vo x) (fun q=>OldF h0 q∨ownF hs vo q) wh vh) (hDH:Beside hs vh vo) (hR:WR hs nr fr (fun x=>OldB h0 x∨ownB vo x) (fun q=>OldF h0 q∨ownF hs vo q) wr vr) (hDR:Beside hs vr vo)
  (hi:wh[i]? = some (ks,en)) (hks:ks.length≤200000) (hrs:∀w∈wr,w.1.length≤200000) (hlen:wo.length+wr.length≤500000)
  {a:Ev.A} {Q:Ex→Ev.A→Hp→Prop} {x0 x2 x4:Value} (hn:a.n=79) (g0:a.get 0=x0) (g2:a.get 2=x2) (g4:a.get 4=x4) (g7:a.get 7=vo) (g8:a.get 8=vh) (g9:a.get 9=.int .i64 (i:Int)) (g10:a.get 10=vr) (g11:a.get 11=.int .i64 0)
  (hq:∀a1 h1 vo',a1.n=79→ExtS (Only xb) h0 h1→hs.next≤h1.next→h1.own xb 81 (wR G items Gv Iv gc ic z)→h1.own pb 52 pc→WR h1 h0.next h0.nfam (OldB h0) (OldF h0) (wo++consW ks wr) vo'→WR h1 nh fh (fun x=>OldB h0 x∨ownB vo' x) (fun q=>OldF h0 q∨ownF h1 vo' q) wh vh→Beside h1 vh vo'→a1.get 0=x0→a1.get 2=x2→a1.get 4=x4→a1.get 7=vo'→a1.get 8=vh→a1.get 9=.int .i64 (i:Int)→a1.get 10=vr→Q (.exit 2) a1 h1) :
  Th Try.prog (bodyAt Try.f72 [1,1,1,0,1,0,0,1,0,0,1,0,1,0]) a hs Q ⟨⟩ ⟨⟩:=by
 obtain ⟨Ar,hvr,hspr⟩:=hR.slice
 have hcons:∀j,consW ks (wr.take (j+1))=consW ks (wr.take j)++(match wr[j]? with|some w=>[(ks++w.1,w.2)]|none=>[]):=by
  intro j
  unfold consW
  cases hj:wr[j]? with
  | none =>
    have:=List.getElem?_eq_none_iff.1 hj
    rw [List.take_of_length_le (by omega),List.take_of_length_le (by omega)];simp
  | some w =>
    have hl:=get_lt' hj
    rw [List.take_succ_eq_append_getElem hl,List.map_append]
    rw [List.getElem?_eq_getElem hl] at hj
    injection hj with hj
    rw [hj];rfl
 simp only [bodyAt,nav,Try.f72]
 refine loop_go (n:=79) (by kernel_rfl) (fun m' a' h'=>∃(j:Nat) (v:Value),j≤wr.length∧m'=wr.length - j∧ExtS (Only xb) h0 h'∧hs.next≤h'.next∧h'.own xb 81 (wR G items Gv Iv gc ic z)∧h'.own pb 52 pc∧WR h' h0.next h0.nfam (OldB h0) (OldF h0) (wo++consW ks (wr.take j)) v∧WR h' nh fh (fun x=>OldB h0 x∨ownB v x) (fun q=>OldF h0 q∨ownF h' v q) wh vh∧Beside h' vh v∧WR h' nr fr (fun x=>OldB h0 x∨ownB v x) (fun q=>OldF h0 q∨ownF h' v q) wr vr∧Beside h' vr v ∧
  a'.get 0=x0∧a'.get 2=x2∧a'.get 4=x4∧a'.get 7=v∧a'.get 8=vh∧a'.get 9=.int .i64 (i:Int)∧a'.get 10=vr∧a'.get 11=.int .i64 j) ?_ wr.length _ _ hn ⟨0,vo,Nat.zero_le _,rfl,hx,Nat.le_refl _,hX,hP,by simpa [consW] using hO,hH,hDH,hR,hDR,g0,g2,g4,g7,g8,g9,g10,g11⟩
 rintro m' a' h' hn' ⟨j,v,hj,rfl,hx',hnx',hX',hP',hO',hH',hDH',hR',hDR',e0,e2,e4,e7,e8,e9,e10,e11⟩
 have hb':h'.base≤h'.next:=ext_bn hx' hb
 by_cases hlt:j<wr.length
 ·have hwj:wr[j]? = some wr[j]:=List.getElem?_eq_getElem hlt
  have hi1:decide ((j:Int)<(wr.length:Int))=true:=decide_eq_true (Int.ofNat_lt.2 hlt)
  obtain ⟨bh,Ah,ch,hvh,hsph,Kh,ldh⟩:=hH'.getR hi
  obtain ⟨br,Ark,crk,hvr2,hsprk,Kr,ldr⟩:=hR'.getR hwj
  have hih:i<wh.length:=get_lt' hi
  have x1:=Ext.new h' (CObj.cells ⟨[],31,0,0,false⟩)
  have hlo:wo.length+(consW ks (wr.take j)).length+1≤1000000:=by
   unfold consW
   rw [List.length_map,List.length_take]
   omega
  obtain ⟨v1,h1,v2,h2,j1,j2,j3,j4,j5⟩:=join_two (B:=fun x=>OldB h0 x∨ownB v x) (F:=fun q=>OldF h0 q∨ownF h' v q) x1 (Nat.le_succ_of_le hb') (empt_own hb') (Kh.more (fun b _ c=>.inl c) (fun f c=>.inl (.inl c))) (Kr.more (fun b _ c=>.inl c) (fun f c=>.inl (.inl c))) (fun b c=>c.elim (fun c=>Nat.lt_of_lt_of_le c hx'.next) (fun c=>(hO'.lt c).2)) (fun f c=>c.elim (fun c=>⟨c.1,Nat.lt_of_lt_of_le c.2 hx'.nfam⟩) (fun c=>⟨(hO'.flt c).1,(hO'.flt c).2.2⟩)) (by
   have:=hrs _ (List.mem_of_getElem? hwj)
   show ks.length+_≤_
   omega)
  obtain ⟨A2,c2,hv2,hsp2⟩:=j5.slice
  have hb2:h2.base≤h2.next:=by rw [j4.base];exact Nat.le_trans hb' j4.next
  have hW:=own_new hb2 85 (encR v2 wr[j].2)
  have x3:=Ext.new h2 (CObj.cells { c:=encR v2 wr[j].2,e:=85,fam:=0,base:=0,grown:=false })
  have x03:=j4.trans x3
  have hO3:=hO'.ext x03
  have hb3:(h2.newH (CObj.cells { c:=encR v2 wr[j].2,e:=85,fam:=0,base:=0,grown:=false })).base≤(h2.newH (CObj.cells { c:=encR v2 wr[j].2,e:=85,fam:=0,base:=0,grown:=false })).next:=by rw [x3.base];exact Nat.le_trans hb2 x3.next
  have K3:KidsAt (h2.newH (CObj.cells { c:=encR v2 wr[j].2,e:=85,fam:=0,base:=0,grown:=false })) (fun x=>OldB h0 x∨ownB v x) (fun q=>OldF h0 q∨ownF (h2.newH (CObj.cells { c:=encR v2 wr[j].2,e:=85,fam:=0,base:=0,grown:=false })) v q) (ks++wr[j].1) v2 :=
   (j5.keep (keepsE x3).any).more (fun b _ c=>c) (fun f c=>.inl (c.elim .inl (fun c=>.inr (hO'.ownF_same (S:=fun _=>False) x03.toS (fun _ _ c=>c) c))))
  have hxh:ExtS (Only xb) h0 _:=hx'.trans x03.toS
  obtain ⟨v',h4,a4,hO4,hext4,hkp4,hoth4,hB4,hF4,hke4⟩:=ways_one apR mkR hO3 hW K3 hb3 hxh.next hxh.nfam (by rw [List.length_append];exact hlo)
  have hx4:=hext4 (Only xb) h0 hxh (Nat.le_refl _) (Nat.le_refl _)
  have hu0:¬ownF _ v 0:=fun c=>(hO3.flt c).1 rfl
  obtain ⟨hH4,hDH4⟩:=(hO'.extF x03 hH').beside (hDH'.ext x03 hH' hO') hu0 hkp4 hke4 hB4 hF4 (fun q c=>(hO4.flt c).1)
  obtain ⟨hR4,hDR4⟩:=(hO'.extF x03 hR').beside (hDR'.ext x03 hR' hO') hu0 hkp4 hke4 hB4 hF4 (fun q c=>(hO4.flt c).1)
  obtain ⟨lh0,_⟩:=ldh _ (Ext.refl h')
  obtain ⟨lh1,_⟩:=ldh _ x1
  obtain ⟨lr0,le0⟩:=ldr _ (Ext.refl h')
  obtain ⟨lr1,le1⟩:=ldr _ x1
  obtain ⟨lr2,le2⟩:=ldr _ j3
  obtain ⟨lr3,le3⟩:=ldr _ j4
  rw [hvh] at e8
  rw [hvr2] at e10
  rw [hv2] at a4 j2
  unfold encR at a4
  obtain ⟨Ao,hvo,hspo⟩:=hO'.slice
  obtain ⟨An,hvn,hspn⟩:=hO4.slice
  rw [hvo] at e7 a4
  rw [hvn] at a4
  simp -dsimp only [go_sem,e0,e2,e4,e7,e8,e9,e10,e11,hi1]
  refine Dw_text (n:=79) [[],[],[],[],[2,3],[2,3,4],[2,3,4,5],[1,2,3,4,5,6],[],[],[8,9],[8,9,10],[8,9,10,11],[1,2,3,4,5,6,7,8,9,10,11,12],[],[],[14,15],[14,15,16],[14,15,16,17],[1,2,3,4,5,6,7,8,9,10,11,12,13,14,15,16,17,18],[1,2,3,4,5,6,7,8,9,10,11,12,13,14,15,16,17,18,19],[0,1,2,3,4,5,6,7,8,9,10,11,12,13,14,15,16,17,18,19,20],[0,1,2,3,4,5,6,7,8,9,10,11,12,13,14,15,16,17,18,19,20,21]] (by simp -dsimp only [go_sem,hn']) (by kernel_rfl) ?_
  simp -dsimp only [go_sem,e0,e2,e4,e7,e8,e9,e10,e11,bs29 0 (by decide),bs82 1 (by decide),repeatN,ia82 hih,ia82 hlt,lh0,lh1,lr0,lr1,lr2,lr3,le0,le1,le2,le3,sameN_sliceA hspo,sameN_sliceA hspn,sameN_sliceA hsp2,sameN_sliceA hsph,sameN_sliceA hsprk,builtin',j1,j2,a4,wrap64_succ hlt (by omega)]
  refine ⟨wr.length - (j+1),by omega,j+1,v',hlt,rfl,hx4,?_,hoth4 _ _ _ (by decide) (own_ext x03 hX'),hoth4 _ _ _ (by decide) (own_ext x03 hP'),?_,hH4,hDH4,hR4,hDR4,?_⟩
  ·exact Nat.le_trans hnx' (Nat.le_trans x03.next hkp4.next)
  ·rw [hcons j,hwj,←List.append_assoc];exact hO4
  ·exact ⟨hvn.symm,hvh.symm,hvr2.symm,rfl⟩
 ·have hi0:decide ((j:Int)<(wr.length:Int))=false:=decide_eq_false (by omega)
  have hjl:j=wr.length:=by omega
  subst hjl
  rw [List.take_length] at hO'
  rw [hvr] at e10
  simp -dsimp only [go_sem,e0,e2,e4,e7,e8,e9,e10,e11,hi0]
  exact hq _ h' v (by simp -dsimp only [go_sem,hn']) hx' hnx' hX' hP' hO' hH' hDH' (by simp -dsimp only [go_sem,e0]) (by simp -dsimp only [go_sem,e2]) (by simp -dsimp only [go_sem,e4]) (by simp -dsimp only [go_sem,e7]) (by simp -dsimp only [go_sem,e8]) (by simp -dsimp only [go_sem,e9]) (by rw [hvr];simp -dsimp only [go_sem,e10])
end Go.Ev.G24
end
section
namespace Go.Ev.G24
open Go.RowKit Go.Proofs
variable {r:Ro} {G:List Rule} {items:List ByteArray} {Gv Iv:Option Addr} {gc ic xb:Nat}
def LoopW (G:List Rule) (items:List ByteArray) (TH:List Way→TaskW) (N:Nat) (s s1:Int) (wh:List Way) (i:Nat) (wo:List Way) (z:Int):Prop :=
 okH N (s.toNat+1) wo∧((0≤z∧(wo.length:Int)+z≤s1∧∃U X:Nat,z=s1 - (U:Int) - (X:Int)∧∀k o,runW G items k (TH (wh.drop i))=some o→∃k',runW G items k' (TH wh)=some (wo++o.1,U+o.2.1,X+o.2.2)) ∨
  (z<0∧lowW s≤z∧wo.length≤2*s.toNat+1))
theorem LoopW.start {TH:List Way→TaskW} {N:Nat} {s s1:Int} {wh:List Way} (h:0≤s1∨(s1<0∧lowW s≤s1)):LoopW G items TH N s s1 wh 0 [] s1:=by
 refine ⟨fun w hw=>by simp at hw,?_⟩
 rcases h with h|⟨h1,h2⟩
 ·exact .inl ⟨h,by simp,0,0,by simp,fun k o e=>⟨k,by rw [List.drop_zero] at e;rw [e];simp⟩⟩
 ·exact .inr ⟨h1,h2,Nat.zero_le _⟩
theorem LoopW.len {TH:List Way→TaskW} {N:Nat} {s s1 z:Int} {wh wo:List Way} {i:Nat} (L:LoopW G items TH N s s1 wh i wo z) (h1:s1≤s) (h2:s≤50000):wo.length≤100001:=by
 rcases L.2 with ⟨a,b,_⟩|⟨a,b,c⟩<;>omega
theorem LoopW.step {TH:List Way→TaskW} {T:Nat→TaskW} {N:Nat} (hN:items.length=N) (st:∀(ks:List Part) (e:Nat) (hs:List Way) (rc:TaskW→Option OutW),stepW G items rc (TH ((ks,e)::hs))=two rc (T e) (fun _=>TH hs) (stepH ks))
  (sl:∀e,slackW (T e)≤1) (pr:∀e,e≤N→preW N 0 (T e)) {s s1 z z':Int} {wh wo ws:List Way} {i e:Nat} {ks:List Part} (hs2:s≤50000) (hok:okH N (s - s1).toNat wh) (h01:0≤s1) (h02:s1+1≤s) (hi:wh[i]? = some (ks,e)) (L:LoopW G items TH N s s1 wh i wo z) (hz:0≤z)
  (hsub:(∃k o,runW G items k (T e)=some o∧z'=z - (o.2.1:Int) - (o.2.2:Int)∧0≤z'∧ws=o.1)∨(z'<0∧lowW z≤z'∧deadW N z ws)) :
  LoopW G items TH N s s1 wh (i+1) (wo++consW ks ws) (z' - (ws.length:Int)):=by
 obtain ⟨L1,L2⟩:=L
 obtain ⟨he,hkl,hkf⟩:=hok (ks,e) (List.mem_of_getElem? hi)
 have hkl:ks.length≤(s - s1).toNat:=hkl
 have he:e≤N:=he
 rcases L2 with ⟨_,b,U,X,hU,hcont⟩|⟨a,_⟩
 rotate_left
 ·omega
 have hll:(wo++consW ks ws).length=wo.length+ws.length:=by unfold consW;rw [List.length_append,List.length_map]
 rcases hsub with ⟨k,o,hrun,hz',hz0,rfl⟩|⟨hz0,hlo,_,hwl,hdo⟩
 ·have hlen:=runW_len _ _ _ hrun
  have hsl:=sl e
  have hok2:=runW_ok hN _ _ _ 0 hrun (pr e he) (by omega)
  refine ⟨okH_app L1 ((okH_cons (e:=e) ⟨hkl,hkf⟩ hok2).mono (by omega)),?_⟩
  have hcw:(consW ks o.1).length=o.1.length:=by unfold consW;rw [List.length_map]
  rw [hll]
  by_cases hn:0≤z' - (o.1.length:Int)
  ·refine .inl ⟨hn,by omega,U+o.2.1,X+o.2.2+o.1.length,by omega,fun k2 o2 h2 => ?_⟩
   have hdr:wh.drop i=(ks,e)::wh.drop (i+1):=by
    have hl:=get_lt' hi
    rw [List.drop_eq_getElem_cons hl]
    rw [List.getElem?_eq_getElem hl] at hi
    injection hi with hi
    rw [hi]
   have h3:=runW_two (st ks e (wh.drop (i+1))) hrun h2
   obtain ⟨k',hk'⟩:=hcont _ _ (by rw [hdr];exact h3)
   refine ⟨k',?_⟩
   rw [hk']
   simp only [stepH,List.append_assoc,Option.some.injEq,Prod.mk.injEq,true_and]
   constructor<;>omega
  ·have:lowW s≤z' - (o.1.length:Int):=by
    unfold lowW
    rw [if_neg (by omega)]
    omega
   exact .inr ⟨by omega,this,by omega⟩
 ·refine ⟨okH_app L1 ((okH_cons (e:=e) ⟨hkl,hkf⟩ hdo).mono (by omega)),?_⟩
  rw [hll]
  have:lowW s≤z' - (ws.length:Int):=by
   unfold lowW at hlo ⊢
   rw [if_neg (by omega)] at hlo ⊢
   omega
  exact .inr ⟨by omega,this,by omega⟩
@[go_sem] theorem lo_only {α : Type} (x : α) : (some x).toList ++ (none : Option α).toList ++ (none : Option α).toList = [x] := rfl
@[go_sem] theorem bind_one {α β : Type} (x : α) (f : α → Option β) : (some x).bind f = f x := rfl
@[go_sem] theorem bind_no {α β : Type} (f : α → Option β) : (none : Option α).bind f = none := rfl
theorem slice50 {h:Hp} (hrom:h.rom=r) {b o n c:Nat} (hb:b<r.b) (hn:1≤n) (hc:n≤c):slice' Try.prog h 50 (.slice (some ⟨b,o,none⟩) n c) (some (.int .i64 1)) none none=some (.slice (some ⟨b,o+3,none⟩) (n - 1) (c - 1)):=by
 have hb2:b<h.base:=by rw [←hrom] at hb;exact hb
 have hc2:Nat.ble n c=true:=by rw [Nat.ble_eq];exact hc
 have hn2:Nat.ble 1 n=true:=by rw [Nat.ble_eq];exact hn
 simp only [slice',Try.underlying50,sz52,blt_true hb2,Option.isNone_none,hc2,bound']
 have e1:bound' (some (.int .i64 1)) 0 n=some 1:=by
  show (match Nat.ble 1 n with|true=>some 1|false=>none)=_
  rw [hn2]
 simp only [bound'] at e1
 rw [e1]
 rfl
end Go.Ev.G24
end
section
namespace Go.Ev.G24
open Go.RowKit Go.Proofs
variable {r:Ro} {G:List Rule} {items:List ByteArray} {Gv Iv:Option Addr} {gc ic xb:Nat}
def PartW (r:Ro) (G:List Rule) (items:List ByteArray) (Gv Iv:Option Addr) (gc ic xb:Nat) (s:Int) (p:Part):Prop:=∀(q:Nat) (h:Hp) (cs:List Value),q≤items.length→h.rom=r→h.base≤h.next→h.own xb 81 (wR G items Gv Iv gc ic s)→RoPart r p cs →
 ∃v h1,Snd Try.prog 43 [.pointer (some ⟨xb,0,none⟩),.agg cs.toArray,.int .i64 (q:Int)] h v h1∧WalkP G items Gv Iv gc ic xb (.part p q) s (lowW s) h v h1
def RowW (r:Ro) (G:List Rule) (items:List ByteArray) (Gv Iv:Option Addr) (gc ic xb:Nat) (s:Int):Prop:=∀(l:List Part) (Av:Option Addr) (c b o:Nat) (css:Nat→List Value) (q:Nat) (h:Hp),(∀p∈l,named (nms G) p∧Few p)→l.length≤100000→l.length≤c→spotless Av=true→(l≠[]→Av=some ⟨b,o,none⟩) →
 (∀(i:Nat) (p:Part),l[i]? = some p→roAt r b (o+i*3) (css i))→(∀(i:Nat) (p:Part),l[i]? = some p→RoPart r p (css i))→q≤items.length→h.rom=r→h.base≤h.next→h.own xb 81 (wR G items Gv Iv gc ic s) →
 ∃v h1,Snd Try.prog 71 [.pointer (some ⟨xb,0,none⟩),.slice Av l.length c,.int .i64 (q:Int)] h v h1∧WalkP G items Gv Iv gc ic xb (.row l q) s (lowW s) h v h1
def AgainW (r:Ro) (G:List Rule) (items:List ByteArray) (Gv Iv:Option Addr) (gc ic xb:Nat) (s:Int) (p:Part):Prop:=∀(q:Nat) (h:Hp) (cs:List Value),q≤items.length→h.rom=r→h.base≤h.next→h.own xb 81 (wR G items Gv Iv gc ic s)→RoPart r p cs →
 ∃v h1,Snd Try.prog 72 [.pointer (some ⟨xb,0,none⟩),.agg cs.toArray,.int .i64 (q:Int)] h v h1∧WalkP G items Gv Iv gc ic xb (.again p q) s (lowW s) h v h1
theorem sub_bounds {t:TaskW} {z z':Int} {ws:List Way} (sl:slackW t≤1) (pr:preW items.length 0 t) (h0:0≤z) (h1:z≤50000) (hsub:(∃k o,runW G items k t=some o∧z'=z - (o.2.1:Int) - (o.2.2:Int)∧0≤z'∧ws=o.1)∨(z'<0∧lowW z≤z'∧deadW items.length z ws)) :
  ws.length≤2*(z.toNat+1)∧okH items.length (z.toNat+1) ws ∧ -20000000000≤z'∧z'≤z:=by
 rcases hsub with ⟨k,o,hrun,hz',hz0,rfl⟩|⟨hz0,hlo,_,hwl,hdo⟩
 ·have hlen:=runW_len _ _ _ hrun
  have hok2:=runW_ok rfl _ _ _ 0 hrun pr (by omega)
  exact ⟨by omega,hok2.mono (by omega),by omega,by omega⟩
 ·refine ⟨hwl,hdo,?_,by omega⟩
  unfold lowW at hlo
  rw [if_neg (by omega)] at hlo
  omega
theorem ways_lift {h0 h' h4:Hp} {wo ws:List Way} {vo v4:Value} (x0:ExtS (Only xb) h0 h') (x4:ExtS (Only xb) h' h4) (hxb:∀b,ownB vo b→¬Only xb b) (hO:WR h' h0.next h0.nfam (OldB h0) (OldF h0) wo vo) (hR:WR h4 h'.next h'.nfam (OldB h') (OldF h') ws v4) :
  WR h4 h'.next h'.nfam (fun x=>OldB h0 x∨ownB vo x) (fun q=>OldF h0 q∨ownF h4 vo q) ws v4∧Beside h4 v4 vo:=by
 refine ⟨hR.more (fun b _ c=>c.elim (fun c=>Nat.lt_of_lt_of_le c x0.next) (fun c=>(hO.lt c).2)) (fun f c=>.inl (c.elim (fun c=>⟨c.1,Nat.lt_of_lt_of_le c.2 x0.nfam⟩) (fun c=>by
  have:=hO.flt (hO.ownF_same x4 hxb c)
  exact ⟨this.1,this.2.2⟩))),fun b c c' => ?_,fun f c c' => ?_⟩
 ·have:=(hR.lt c).1;have:=(hO.lt c').2;omega
 ·have:=(hR.flt c).2.1;have:=(hO.flt (hO.ownF_same x4 hxb c')).2.2;omega
theorem heads_ext {S:Nat→Prop} {h h1:Hp} {nh fh:Nat} {B F:Nat→Prop} {wh wo:List Way} {vh vo:Value} {n0 f0:Nat} {B2 F2:Nat→Prop} (x:ExtS S h h1) (n:NoRow h S) (hO:WR h n0 f0 B2 F2 wo vo) (hSo:∀b,ownB vo b→¬S b) (hH:WR h nh fh (fun x=>B x∨ownB vo x) (fun q=>F q∨ownF h vo q) wh vh) (hSh:∀b,ownB vh b→¬S b) (D:Beside h vh vo) :
  WR h1 nh fh (fun x=>B x∨ownB vo x) (fun q=>F q∨ownF h1 vo q) wh vh∧Beside h1 vh vo :=
 ⟨(hH.extS x n hSh).more (fun b _ c=>c) (fun f c=>.inl (c.elim .inl (fun c=>.inr (hO.ownF_same x hSo c)))),D.1,fun f c c'=>D.2 f (hH.ownF_same x hSh c) (hO.ownF_same x hSo c')⟩
set_option maxHeartbeats 8000000 in
set_option maxRecDepth 10000 in
theorem walk_outer71 {h0 hs:Hp} {nh fh:Nat} {wh:List Way} {vh:Value} {s s1:Int} {x:Part} {l:List Part} {c b o:Nat} {css:Nat→List Value} (hb:h0.base≤h0.next) (hrom:h0.rom=r) (hx:ExtS (Only xb) h0 hs) (hX:hs.own xb 81 (wR G items Gv Iv gc ic s1)) (hxn:xb<h0.next)
  (ihr:∀z,0≤z→z<s→RowW r G items Gv Iv gc ic xb z) (hpl:∀p∈x::l,named (nms G) p∧Few p) (hll:(x::l).length≤100000) (hlc:(x::l).length≤c) (hat:∀(i:Nat) (p:Part),(x::l)[i]? = some p→roAt r b (o+i*3) (css i)) (hk:∀(i:Nat) (p:Part),(x::l)[i]? = some p→RoPart r p (css i)) (hs0:0≤s) (hs2:s≤50000) (hs1:s1+1≤s) (hlo:lowW s≤s1) (hH:WR hs nh fh (OldB h0) (OldF h0) wh vh) (hnh:h0.next≤nh) (hok:0≤s1→okH items.length (s - s1).toNat wh) (hwl:wh.length≤1000000)
  {a:Ev.A} {Q:Ex→Ev.A→Hp→Prop} (hn:a.n=84) (g0:a.get 0=.pointer (some ⟨xb,0,none⟩)) (g1:a.get 1=.slice (some ⟨b,o,none⟩) (l.length+1) c) (g7:a.get 7=.slice none 0 0) (g8:a.get 8=vh) (g9:a.get 9=.int .i64 0)
  (hq:∀a1 h1 wo vo z i,a1.n=84→ExtS (Only xb) h0 h1→h1.own xb 81 (wR G items Gv Iv gc ic z)→WR h1 h0.next h0.nfam (OldB h0) (OldF h0) wo vo→LoopW G items (fun hs=>TaskW.rowH hs l) items.length s s1 wh i wo z→(z<0∨i=wh.length)→a1.get 1=.slice (some ⟨b,o,none⟩) (l.length+1) c→a1.get 7=vo→Q (.exit 0) a1 h1) :
  Th Try.prog (bodyAt Try.f71 [1,1,1,1,0,1,0]) a hs Q ⟨⟩ ⟨⟩:=by
 obtain ⟨Ah0,hvh0,hsph0⟩:=hH.slice
 simp only [bodyAt,nav,Try.f71]
 refine loop_go (n:=84) (by kernel_rfl) (fun m' a' h'=>∃(i:Nat) (wo:List Way) (vo:Value) (z:Int),i≤wh.length∧m'=wh.length - i∧ExtS (Only xb) h0 h'∧h'.own xb 81 (wR G items Gv Iv gc ic z)∧WR h' h0.next h0.nfam (OldB h0) (OldF h0) wo vo∧WR h' nh fh (fun x=>OldB h0 x∨ownB vo x) (fun q=>OldF h0 q∨ownF h' vo q) wh vh∧Beside h' vh vo∧LoopW G items (fun hs=>TaskW.rowH hs l) items.length s s1 wh i wo z ∧
  a'.get 0=.pointer (some ⟨xb,0,none⟩)∧a'.get 1=.slice (some ⟨b,o,none⟩) (l.length+1) c∧a'.get 7=vo∧a'.get 8=vh∧a'.get 9=.int .i64 (i:Int)) ?_ wh.length _ _ hn ⟨0,[],.slice none 0 0,s1,Nat.zero_le _,rfl,hx,hX,WaysAt.nil,hH.more (fun b _ c=>c.elim id (fun c=>c.elim)) (fun f c=>.inl (c.elim id (fun c=>c.elim))),⟨fun b c c'=>c'.elim,fun f c c'=>c'.elim⟩,LoopW.start (by omega),g0,g1,g7,g8,g9⟩
 rintro m' a' h' hn' ⟨i,wo,vo,z,hi,rfl,hx',hX',hO',hH',hDH',hL,e0,e1,e7,e8,e9⟩
 have hb':h'.base≤h'.next:=ext_bn hx' hb
 have hrom':h'.rom=r:=ext_rom hx' hrom
 have hxbo:∀b,ownB vo b→¬Only xb b:=fun b c d=>by have:=(hO'.lt c).1;have:b=xb:=d;omega
 have hxbh:∀b,ownB vh b→¬Only xb b:=fun b c d=>by have:=(hH'.lt c).1;have:b=xb:=d;omega
 have hX0:=hX'
 unfold wR at hX0
 by_cases hlt:i<wh.length
 rotate_left
 ·have hi0:decide ((i:Int)<(wh.length:Int))=false:=decide_eq_false (by omega)
  rw [hvh0] at e8
  simp -dsimp only [go_sem,e0,e1,e7,e8,e9,hi0]
  exact hq _ h' wo vo z i (by simp -dsimp only [go_sem,hn']) hx' hX' hO' hL (.inr (by omega)) (by simp -dsimp only [go_sem,e1]) (by simp -dsimp only [go_sem,e7])
 have hi1:decide ((i:Int)<(wh.length:Int))=true:=decide_eq_true (Int.ofNat_lt.2 hlt)
 by_cases hz:0≤z
 rotate_left
 ·have hz0:decide (0≤z)=false:=decide_eq_false hz
  rw [hvh0] at e8
  simp -dsimp only [go_sem,e0,e1,e7,e8,e9,hi1,load_own hX0,hz0]
  exact hq _ h' wo vo z i (by simp -dsimp only [go_sem,hn']) hx' hX' hO' hL (.inl (by omega)) (by simp -dsimp only [go_sem,e1]) (by simp -dsimp only [go_sem,e7])
 have hz1:decide (0≤z)=true:=decide_eq_true hz
 have hzs:z≤s1∧0≤s1:=by
  rcases hL.2 with ⟨_,a,_⟩|⟨a,_⟩<;>omega
 obtain ⟨⟨ks,e⟩,hwi⟩:∃w,wh[i]? = some w:=⟨_,List.getElem?_eq_getElem hlt⟩
 have hokh:=hok hzs.2
 obtain ⟨he',hkl,hkf⟩:=hokh (ks,e) (List.mem_of_getElem? hwi)
 have hkl:ks.length≤(s - s1).toNat:=hkl
 have he':e≤items.length:=he'
 obtain ⟨bh,Ah,ch,hvh,hsph,Kh,ldh⟩:=hH'.getR hwi
 obtain ⟨_,le0⟩:=ldh _ (Ext.refl h')
 obtain ⟨v4,h4,hs4,z',ws,hx4,hX4,hR4,hcase⟩:=ihr z hz (by omega) l (some ⟨b,o+3,none⟩) (c - 1) b (o+3) (fun i=>css (i+1)) e h' (fun p hp=>hpl p (.tail _ hp)) (by simp at hll;omega) (by simp at hlc;omega) rfl (fun _=>rfl) (fun i p hp=>by have:=hat (i+1) p (by simpa using hp);rw [show o+3+i*3=o+(i+1)*3 by omega];exact this) (fun i p hp=>hk (i+1) p (by simpa using hp)) he' hrom' hb' hX'
 obtain ⟨hb1,hb2,hb3,hb4⟩:=sub_bounds (by simp [slackW]) (by exact ⟨he',rfl⟩) hz (by omega) hcase
 obtain ⟨A4,hv4,hsp4⟩:=hR4.slice
 have hks2:ks.length≤200000:=by clear hcase hL;omega
 have hws2:∀w∈ws,w.1.length≤200000:=fun w hw=>by
  have:=(hb2 w hw).2.1
  clear hcase hL
  omega
 have hwo:=hL.len (by clear hcase hL;omega) hs2
 have hlen2:wo.length+ws.length≤500000:=by clear hcase hL;omega
 rw [hvh] at e8
 simp -dsimp only [go_sem,e0,e1,e7,e8,e9,hi1,load_own hX0,hz1]
 refine Dw_text (n:=84) [[],[],[1],[],[],[3,4],[3,4,5],[3,4,5,6],[0,1,2,3,4,5,6,7],[0,1,2,3,4,5,6,7,8]] (by simp -dsimp only [go_sem,hn']) (by kernel_rfl) ?_
 simp -dsimp only [go_sem,e0,e1,e7,e8,e9,slice50 hrom' (hat 0 x rfl).1 (by omega:1≤l.length+1) (by simpa using hlc:l.length+1≤c),ia82 hlt,le0,sameN_sliceA hsph]
 refine ⟨_,h4,hs4,?_⟩
 rw [hv4]
 simp -dsimp only [go_sem,sameN_sliceA hsp4]
 have hO4:WR h4 h0.next h0.nfam (OldB h0) (OldF h0) wo vo:=hO'.extS hx4 (noRow_own hX' (by decide)) hxbo
 obtain ⟨hH4,hDH4⟩:=heads_ext hx4 (noRow_own hX' (by decide)) hO' hxbo hH' hxbh hDH'
 obtain ⟨hR4',hDR4⟩:=ways_lift hx' hx4 hxbo hO' hR4
 have hx04:ExtS (Only xb) h0 h4:=hx'.trans hx4
 refine walk_inner71 (x0:=.pointer (some ⟨xb,0,none⟩)) (x1:=.slice (some ⟨b,o,none⟩) (l.length+1) c) hb hx04 hX4 hxn hO4 hH4 hDH4 hR4' hDR4 hwi hks2 hws2 hlen2 (by simp -dsimp only [go_sem,hn']) (by simp -dsimp only [go_sem,e0]) (by simp -dsimp only [go_sem,e1]) (by simp -dsimp only [go_sem,e7]) (by simp -dsimp only [go_sem,e8,hvh]) (by simp -dsimp only [go_sem,e9]) (by simp -dsimp only [go_sem,hv4]) (by simp -dsimp only [go_sem]) (fun a1 h5 vo' r_n hx5 hn5 hX5 hO5 hH5 hDH5 r0 r1 r7 r8 r9 r10 => ?_)
 have hxbo5:∀b,ownB vo' b→¬Only xb b:=fun b c d=>by have:=(hO5.lt c).1;have:b=xb:=d;omega
 have hX50:=hX5
 unfold wR at hX50
 have hw:IntKind.i64.wrap (z' - (ws.length:Int))=z' - (ws.length:Int):=by rw [IntKind.wrap_i64];clear hcase hL;omega
 have hst:=stores_own hX50 (o:=2) (vs:=[.int .i64 (z' - (ws.length:Int))]) (c1:=[.slice Gv G.length gc,.slice Iv items.length ic,.int .i64 (z' - (ws.length:Int))]) rfl rfl (by simp)
 have hX6:=own_put_same hX50 [.slice Gv G.length gc,.slice Iv items.length ic,.int .i64 (z' - (ws.length:Int))]
 have xq:ExtS (Only xb) h5 (h5.put xb (.cells ⟨[.slice Gv G.length gc,.slice Iv items.length ic,.int .i64 (z' - (ws.length:Int))],81,0,0,false⟩)):=((Ext.refl h5).toS (S:=Only xb)).put (b:=xb) (.inr rfl) _
 have hO6:=hO5.extS xq (noRow_own hX5 (by decide)) hxbo5
 obtain ⟨hH6,hDH6⟩:=heads_ext xq (noRow_own hX5 (by decide)) hO5 hxbo5 hH5 hxbh hDH5
 rw [hv4] at r10
 simp -dsimp only [go_sem,r0,r1,r7,r8,r9,r10,load_own hX50,hw,hst,wrap64_succ hlt (by omega)]
 exact ⟨wh.length - (i+1),by omega,i+1,wo++consW ks ws,vo',z' - (ws.length:Int),hlt,rfl,hx5.trans xq,hX6,hO6,hH6,hDH6,LoopW.step (T:=fun e=>TaskW.row l e) rfl (fun _ _ _ _=>rfl) (fun e=>by simp [slackW]) (fun e he=>⟨he,rfl⟩) hs2 hokh hzs.2 hs1 hwi hL hz hcase,rfl,rfl⟩
set_option maxHeartbeats 8000000 in
set_option maxRecDepth 10000 in
theorem walk_outer72 {h0 hs:Hp} {nh fh:Nat} {wh:List Way} {vh:Value} {s s1:Int} {x:Part} {pb:Nat} {Av1:Option Addr} {c1:Nat} {xq:Value} (hb:h0.base≤h0.next) (hrom:h0.rom=r) (hx:ExtS (Only xb) h0 hs) (hX:hs.own xb 81 (wR G items Gv Iv gc ic s1)) (hxn:xb<h0.next)
  (ihr:∀z,0≤z→z<s→AgainW r G items Gv Iv gc ic xb z x) (hkx:RoPart r x [.string x.d,.string x.t,.slice Av1 x.l.length c1]) (hP:hs.own pb 52 [.string x.d,.string x.t,.slice Av1 x.l.length c1]) (hpx:pb≠xb) (hs0:0≤s) (hs2:s≤50000) (hs1:s1+1≤s) (hlo:lowW s≤s1) (hH:WR hs nh fh (OldB h0) (OldF h0) wh vh) (hnh:h0.next≤nh) (hok:0≤s1→okH items.length (s - s1).toNat wh) (hwl:wh.length≤1000000)
  {a:Ev.A} {Q:Ex→Ev.A→Hp→Prop} (hn:a.n=79) (g0:a.get 0=.pointer (some ⟨xb,0,none⟩)) (g2:a.get 2=xq) (g4:a.get 4=.pointer (some ⟨pb,0,none⟩)) (g7:a.get 7=.slice none 0 0) (g8:a.get 8=vh) (g9:a.get 9=.int .i64 0)
  (hq:∀a1 h1 wo vo z i,a1.n=79→ExtS (Only xb) h0 h1→h1.own xb 81 (wR G items Gv Iv gc ic z)→h1.own pb 52 [.string x.d,.string x.t,.slice Av1 x.l.length c1]→WR h1 h0.next h0.nfam (OldB h0) (OldF h0) wo vo→LoopW G items (fun hs=>TaskW.againH hs x) items.length s s1 wh i wo z→(z<0∨i=wh.length)→a1.get 2=xq→a1.get 4=.pointer (some ⟨pb,0,none⟩)→a1.get 7=vo→Q (.exit 0) a1 h1) :
  Th Try.prog (bodyAt Try.f72 [1,1,1,0,1,0]) a hs Q ⟨⟩ ⟨⟩:=by
 obtain ⟨Ah0,hvh0,hsph0⟩:=hH.slice
 simp only [bodyAt,nav,Try.f72]
 refine loop_go (n:=79) (by kernel_rfl) (fun m' a' h'=>∃(i:Nat) (wo:List Way) (vo:Value) (z:Int),i≤wh.length∧m'=wh.length - i∧ExtS (Only xb) h0 h'∧h'.own xb 81 (wR G items Gv Iv gc ic z)∧h'.own pb 52 [.string x.d,.string x.t,.slice Av1 x.l.length c1]∧WR h' h0.next h0.nfam (OldB h0) (OldF h0) wo vo∧WR h' nh fh (fun x=>OldB h0 x∨ownB vo x) (fun q=>OldF h0 q∨ownF h' vo q) wh vh∧Beside h' vh vo∧LoopW G items (fun hs=>TaskW.againH hs x) items.length s s1 wh i wo z ∧
  a'.get 0=.pointer (some ⟨xb,0,none⟩)∧a'.get 2=xq∧a'.get 4=.pointer (some ⟨pb,0,none⟩)∧a'.get 7=vo∧a'.get 8=vh∧a'.get 9=.int .i64 (i:Int)) ?_ wh.length _ _ hn ⟨0,[],.slice none 0 0,s1,Nat.zero_le _,rfl,hx,hX,hP,WaysAt.nil,hH.more (fun b _ c=>c.elim id (fun c=>c.elim)) (fun f c=>.inl (c.elim id (fun c=>c.elim))),⟨fun b c c'=>c'.elim,fun f c c'=>c'.elim⟩,LoopW.start (by omega),g0,g2,g4,g7,g8,g9⟩
 rintro m' a' h' hn' ⟨i,wo,vo,z,hi,rfl,hx',hX',hP',hO',hH',hDH',hL,e0,e2,e4,e7,e8,e9⟩
 have hb':h'.base≤h'.next:=ext_bn hx' hb
 have hrom':h'.rom=r:=ext_rom hx' hrom
 have hxbo:∀b,ownB vo b→¬Only xb b:=fun b c d=>by have:=(hO'.lt c).1;have:b=xb:=d;omega
 have hxbh:∀b,ownB vh b→¬Only xb b:=fun b c d=>by have:=(hH'.lt c).1;have:b=xb:=d;omega
 have hX0:=hX'
 unfold wR at hX0
 by_cases hlt:i<wh.length
 rotate_left
 ·have hi0:decide ((i:Int)<(wh.length:Int))=false:=decide_eq_false (by omega)
  rw [hvh0] at e8
  simp -dsimp only [go_sem,e0,e2,e4,e7,e8,e9,hi0]
  exact hq _ h' wo vo z i (by simp -dsimp only [go_sem,hn']) hx' hX' hP' hO' hL (.inr (by omega)) (by simp -dsimp only [go_sem,e2]) (by simp -dsimp only [go_sem,e4]) (by simp -dsimp only [go_sem,e7])
 have hi1:decide ((i:Int)<(wh.length:Int))=true:=decide_eq_true (Int.ofNat_lt.2 hlt)
 by_cases hz:0≤z
 rotate_left
 ·have hz0:decide (0≤z)=false:=decide_eq_false hz
  rw [hvh0] at e8
  simp -dsimp only [go_sem,e0,e2,e4,e7,e8,e9,hi1,load_own hX0,hz0]
  exact hq _ h' wo vo z i (by simp -dsimp only [go_sem,hn']) hx' hX' hP' hO' hL (.inl (by omega)) (by simp -dsimp only [go_sem,e2]) (by simp -dsimp only [go_sem,e4]) (by simp -dsimp only [go_sem,e7])
 have hz1:decide (0≤z)=true:=decide_eq_true hz
 have hzs:z≤s1∧0≤s1:=by
  rcases hL.2 with ⟨_,a,_⟩|⟨a,_⟩<;>omega
 obtain ⟨⟨ks,e⟩,hwi⟩:∃w,wh[i]? = some w:=⟨_,List.getElem?_eq_getElem hlt⟩
 have hokh:=hok hzs.2
 obtain ⟨he',hkl,hkf⟩:=hokh (ks,e) (List.mem_of_getElem? hwi)
 have hkl:ks.length≤(s - s1).toNat:=hkl
 have he':e≤items.length:=he'
 obtain ⟨bh,Ah,ch,hvh,hsph,Kh,ldh⟩:=hH'.getR hwi
 obtain ⟨_,le0⟩:=ldh _ (Ext.refl h')
 obtain ⟨v4,h4,hs4,z',ws,hx4,hX4,hR4,hcase⟩:=ihr z hz (by omega) e h' [.string x.d,.string x.t,.slice Av1 x.l.length c1] he' hrom' hb' hX' hkx
 obtain ⟨hb1,hb2,hb3,hb4⟩:=sub_bounds (by simp [slackW]) (by exact ⟨he',rfl⟩) hz (by omega) hcase
 obtain ⟨A4,hv4,hsp4⟩:=hR4.slice
 have hks2:ks.length≤200000:=by clear hcase hL;omega
 have hws2:∀w∈ws,w.1.length≤200000:=fun w hw=>by
  have:=(hb2 w hw).2.1
  clear hcase hL
  omega
 have hwo:=hL.len (by clear hcase hL;omega) hs2
 have hlen2:wo.length+ws.length≤500000:=by clear hcase hL;omega
 rw [hvh] at e8
 simp -dsimp only [go_sem,e0,e2,e4,e7,e8,e9,hi1,load_own hX0,hz1]
 refine Dw_text (n:=79) [[],[],[],[],[2,3],[2,3,4],[2,3,4,5],[0,1,2,3,4,5,6],[0,1,2,3,4,5,6,7]] (by simp -dsimp only [go_sem,hn']) (by kernel_rfl) ?_
 simp -dsimp only [go_sem,e0,e2,e4,e7,e8,e9,loads_own hP',sameN_sliceA hkx.same,ia82 hlt,le0,sameN_sliceA hsph]
 refine ⟨_,h4,hs4,?_⟩
 rw [hv4]
 simp -dsimp only [go_sem,sameN_sliceA hsp4]
 have hP4:=own_extS hx4 hP' hpx
 have hO4:WR h4 h0.next h0.nfam (OldB h0) (OldF h0) wo vo:=hO'.extS hx4 (noRow_own hX' (by decide)) hxbo
 obtain ⟨hH4,hDH4⟩:=heads_ext hx4 (noRow_own hX' (by decide)) hO' hxbo hH' hxbh hDH'
 obtain ⟨hR4',hDR4⟩:=ways_lift hx' hx4 hxbo hO' hR4
 have hx04:ExtS (Only xb) h0 h4:=hx'.trans hx4
 refine walk_inner72 (x0:=.pointer (some ⟨xb,0,none⟩)) (x2:=xq) (x4:=.pointer (some ⟨pb,0,none⟩)) hb hx04 hX4 hxn hP4 hO4 hH4 hDH4 hR4' hDR4 hwi hks2 hws2 hlen2 (by simp -dsimp only [go_sem,hn']) (by simp -dsimp only [go_sem,e0]) (by simp -dsimp only [go_sem,e2]) (by simp -dsimp only [go_sem,e4]) (by simp -dsimp only [go_sem,e7]) (by simp -dsimp only [go_sem,e8,hvh]) (by simp -dsimp only [go_sem,e9]) (by simp -dsimp only [go_sem,hv4]) (by simp -dsimp only [go_sem]) (fun a1 h5 vo' r_n hx5 hn5 hX5 hP5 hO5 hH5 hDH5 r0 r2 r4 r7 r8 r9 r10 => ?_)
 have hxbo5:∀b,ownB vo' b→¬Only xb b:=fun b c d=>by have:=(hO5.lt c).1;have:b=xb:=d;omega
 have hX50:=hX5
 unfold wR at hX50
 have hw:IntKind.i64.wrap (z' - (ws.length:Int))=z' - (ws.length:Int):=by rw [IntKind.wrap_i64];clear hcase hL;omega
 have hst:=stores_own hX50 (o:=2) (vs:=[.int .i64 (z' - (ws.length:Int))]) (c1:=[.slice Gv G.length gc,.slice Iv items.length ic,.int .i64 (z' - (ws.length:Int))]) rfl rfl (by simp)
 have hX6:=own_put_same hX50 [.slice Gv G.length gc,.slice Iv items.length ic,.int .i64 (z' - (ws.length:Int))]
 have xq:ExtS (Only xb) h5 (h5.put xb (.cells ⟨[.slice Gv G.length gc,.slice Iv items.length ic,.int .i64 (z' - (ws.length:Int))],81,0,0,false⟩)):=((Ext.refl h5).toS (S:=Only xb)).put (b:=xb) (.inr rfl) _
 have hP6:=own_put hP5 hpx (.cells ⟨[.slice Gv G.length gc,.slice Iv items.length ic,.int .i64 (z' - (ws.length:Int))],81,0,0,false⟩)
 have hO6:=hO5.extS xq (noRow_own hX5 (by decide)) hxbo5
 obtain ⟨hH6,hDH6⟩:=heads_ext xq (noRow_own hX5 (by decide)) hO5 hxbo5 hH5 hxbh hDH5
 rw [hv4] at r10
 simp -dsimp only [go_sem,r0,r2,r4,r7,r8,r9,r10,load_own hX50,hw,hst,wrap64_succ hlt (by omega)]
 exact ⟨wh.length - (i+1),by omega,i+1,wo++consW ks ws,vo',z' - (ws.length:Int),hlt,rfl,hx5.trans xq,hX6,hP6,hO6,hH6,hDH6,LoopW.step (T:=fun e=>TaskW.again x e) rfl (fun _ _ _ _=>rfl) (fun e=>by simp [slackW]) (fun e he=>⟨he,rfl⟩) hs2 hokh hzs.2 hs1 hwi hL hz hcase,rfl,rfl⟩
end Go.Ev.G24
end
section
namespace Go.Ev.G24
open Go.RowKit Go.Proofs
variable {r:Ro} {G:List Rule} {items:List ByteArray} {Gv Iv:Option Addr} {gc ic xb:Nat}
theorem LoopW.done {TH:List Way→TaskW} {N:Nat} {s s1 z:Int} {wh wo:List Way} {i:Nat} (L:LoopW G items TH N s s1 wh i wo z) (he:z<0∨i=wh.length) (st:runW G items 1 (TH [])=some ([],0,0)) :
  (0≤z∧0≤s1∧∃k' U X,runW G items k' (TH wh)=some (wo,U,X)∧z=s1 - (U:Int) - (X:Int))∨(z<0∧lowW s≤z∧wo.length≤2*s.toNat+1∧okH N (s.toNat+1) wo):=by
 obtain ⟨L1,L2⟩:=L
 rcases L2 with ⟨a,b,U,X,hU,hc⟩|⟨a,b,c⟩
 ·rcases he with he|he
  ·omega
  ·subst he
   obtain ⟨k',hk'⟩:=hc 1 ([],0,0) (by rw [List.drop_length];exact st)
   refine .inl ⟨a,by omega,k',U,X,?_,hU⟩
   simpa using hk'
 ·exact .inr ⟨a,b,c,L1⟩
theorem part_facts {p:Part} {q:Nat} {s s1:Int} {wh:List Way} (h0:0≤s) (hs2:s≤50000) (hq:q≤items.length) (hc:(∃k o,runW G items k (.part p q)=some o∧s1=s - (o.2.1:Int) - (o.2.2:Int)∧0≤s1∧wh=o.1)∨(s1<0∧lowW s≤s1∧deadW items.length s wh)) :
  s1+1≤s∧lowW s≤s1∧(0≤s1→okH items.length (s - s1).toNat wh)∧wh.length≤1000000:=by
 have hb:=sub_bounds (t:=.part p q) (by simp [slackW]) (by exact ⟨hq,rfl⟩) h0 hs2 hc
 rcases hc with ⟨k,o,hrun,e1,e2,rfl⟩|⟨e1,e2,e3⟩
 ·have hp:=runW_pos hrun
  have hok:=runW_ok rfl _ _ _ 0 hrun (by exact ⟨hq,rfl⟩) (by omega)
  refine ⟨by omega,?_,fun _=>hok.mono (by omega),by omega⟩
  unfold lowW
  rw [if_neg (by omega)]
  omega
 ·exact ⟨by omega,e2,fun c=>by omega,by omega⟩
set_option maxHeartbeats 8000000 in
set_option maxRecDepth 10000 in
theorem walk_row {s:Int} (hs0:0≤s) (hs2:s≤50000) (ihp:∀p,named (nms G) p→Few p→PartW r G items Gv Iv gc ic xb s p) (ihr:∀z,0≤z→z<s→RowW r G items Gv Iv gc ic xb z):RowW r G items Gv Iv gc ic xb s:=by
 intro l Av c b o css q h hpl hll hlc hsp hA hat hk hq hrom hb hX
 refine snd_go wf Try.func71 rfl rfl (n:=84) rfl (by kernel_rfl) rfl ?_
 intro a hn hg
 have hr:Try.f71.results.toList=[.tmp 6]:=rfl
 have g0:=hg 0
 have g1:=hg 1
 have g2:=hg 2
 clear hg
 simp only [List.getElem?_cons_zero,List.getElem?_cons_succ] at g0 g1 g2
 by_cases hl:l=[]
 ·subst hl
  have hW:=own_new hb 85 [.slice none 0 0,.int .i64 (q:Int)]
  have hx:=Ext.new h (CObj.cells ⟨[.slice none 0 0,.int .i64 (q:Int)],85,0,0,false⟩)
  simp -dsimp only [go_sem,g0,g1,g2,sameN_sliceA hsp,bs82 1 (by decide),repeatN,List.length_nil,Int.natCast_zero,decide_true,hr]
  exact ⟨s,[([],q)],hx.toS,own_ext hx hX,ways_new mkR hW (Nat.le_refl _) KidsAt.nil,.inl ⟨1,_,rfl,by simp,hs0,rfl⟩⟩
 ·obtain ⟨x,l,rfl⟩:∃x l',l=x::l':=List.exists_cons_of_ne_nil hl
  have hl0:decide (((l.length+1:Nat):Int)=0)=false:=decide_eq_false (by omega)
  have hAv:=hA hl
  subst hAv
  obtain ⟨hnx,hfx⟩:=hpl x (.head _)
  have hkx:=hk 0 x rfl
  have hatx:=hat 0 x rfl
  obtain ⟨Av1,c1',hcs⟩:=hkx.shape
  rw [hcs] at hkx hatx
  obtain ⟨v4,h4,hs4,s1,wh,hx4,hX4,hH4,hcase⟩:=ihp x hnx hfx q h _ hq hrom hb hX hkx
  obtain ⟨p1,p2,p3,p4⟩:=part_facts hs0 hs2 hq hcase
  obtain ⟨A4,hv4,hsp4⟩:=hH4.slice
  have hix:indexAddr' Try.prog 50 (.slice (some ⟨b,o,none⟩) (l.length+1) c) (.int .i64 0)=some (.pointer (some ⟨b,o,none⟩)):=by
   have:=ia50 (b:=b) (o:=o) (c:=c) (n:=l.length+1) (i:=0) (by omega)
   simpa using this
  have hld:h.loads ⟨b,o,none⟩ 3=some [.string x.d,.string x.t,.slice Av1 x.l.length c1']:=loads_ro (n:=3) hrom (by simpa using hatx) rfl
  simp -dsimp only [go_sem,g0,g1,g2,hl0,hix,hld]
  refine ⟨_,h4,hs4,?_⟩
  rw [hv4]
  refine walk_outer71 (c:=c) hb hrom hx4 hX4 hX.2.1 ihr hpl hll hlc hat hk hs0 hs2 p1 p2 hH4 (Nat.le_refl _) p3 p4 (by simp -dsimp only [go_sem,hn]) (by simp -dsimp only [go_sem,g0]) (by simp -dsimp only [go_sem,g1]) (by simp -dsimp only [go_sem]) (by simp -dsimp only [go_sem,hv4]) (by simp -dsimp only [go_sem]) (fun a1 h1 wo vo z i r_n hx1 hX1 hO hL hend r1 r7 => ?_)
  obtain ⟨Ao,hvo,hspo⟩:=hO.slice
  rw [hvo] at r7
  simp -dsimp only [go_sem,r7,sameN_sliceA hspo,hr]
  rw [←hvo]
  refine ⟨z,wo,hx1,hX1,hO,?_⟩
  rcases hL.done hend rfl with ⟨d1,d2,k',U,X,hk',hz⟩|⟨d1,d2,d3,d4⟩
  ·rcases hcase with ⟨k,o,hrun,e1,e2,rfl⟩|⟨e1,_⟩
   ·refine .inl ⟨_,_,runW_two (t:=.row (x::l) q) (fun rc=>rfl) hrun hk',?_,d1,rfl⟩
    simp only [rowW]
    omega
   ·omega
  ·exact .inr ⟨d1,d2,fun c=>by omega,by omega,d4⟩
set_option maxHeartbeats 8000000 in
set_option maxRecDepth 10000 in
theorem walk_again {s:Int} {x:Part} (hs0:0≤s) (hs2:s≤50000) (ihp:PartW r G items Gv Iv gc ic xb s x) (ihr:∀z,0≤z→z<s→AgainW r G items Gv Iv gc ic xb z x):AgainW r G items Gv Iv gc ic xb s x:=by
 intro q h cs hq hrom hb hX hkx
 obtain ⟨Av1,c1',hcs⟩:=hkx.shape
 subst hcs
 refine snd_go wf Try.func72 rfl rfl (n:=79) rfl (by kernel_rfl) rfl ?_
 intro a hn hg
 have hr:Try.f72.results.toList=[.tmp 6]:=rfl
 have g0:=hg 0
 have g1:=hg 1
 have g2:=hg 2
 clear hg
 simp only [List.getElem?_cons_zero,List.getElem?_cons_succ] at g0 g1 g2
 have hP:=own_new hb 52 [.string x.d,.string x.t,.slice Av1 x.l.length c1']
 have hx0:=Ext.new h (CObj.cells ⟨[.string x.d,.string x.t,.slice Av1 x.l.length c1'],52,0,0,false⟩)
 have hX0:=own_ext hx0 hX
 have hxn:h.next≠xb:=Nat.ne_of_gt hX.2.1
 simp -dsimp only [go_sem,g0,g1,g2]
 generalize h.newH (CObj.cells ⟨[.string x.d,.string x.t,.slice Av1 x.l.length c1'],52,0,0,false⟩)=h2 at hP hx0 hX0 ⊢
 have hb2:h2.base≤h2.next:=ext_bn (hx0.toS (S:=Only xb)) hb
 have hrom2:h2.rom=r:=hx0.rom.trans hrom
 obtain ⟨v4,h4,hs4,s1,wh,hx4,hX4,hH4,hcase⟩:=ihp q h2 _ hq hrom2 hb2 hX0 hkx
 obtain ⟨p1,p2,p3,p4⟩:=part_facts hs0 hs2 hq hcase
 obtain ⟨A4,hv4,hsp4⟩:=hH4.slice
 have hP4:=own_extS hx4 hP hxn
 simp -dsimp only [go_sem,g0,g1,g2,loads_own hP]
 refine ⟨_,h4,hs4,?_⟩
 rw [hv4]
 refine walk_outer72 (pb:=h.next) (xq:=.int .i64 (q:Int)) hb2 hrom2 hx4 hX4 (Nat.lt_of_lt_of_le hX.2.1 hx0.next) ihr hkx hP4 hxn hs0 hs2 p1 p2 hH4 (Nat.le_refl _) p3 p4 (by simp -dsimp only [go_sem,hn]) (by simp -dsimp only [go_sem,g0]) (by simp -dsimp only [go_sem,g2]) (by simp -dsimp only [go_sem]) (by simp -dsimp only [go_sem]) (by simp -dsimp only [go_sem,hv4]) (by simp -dsimp only [go_sem]) (fun a1 h1 wo vo z i r_n hx1 hX1 hP1 hO hL hend r2 r4 r7 => ?_)
 have hb1:h1.base≤h1.next:=ext_bn hx1 hb2
 have hW:=own_new hb1 85 (encR (.slice none 0 0) q)
 have xw:=Ext.new h1 (CObj.cells { c:=encR (.slice none 0 0) q,e:=85,fam:=0,base:=0,grown:=false })
 have hx12:=hx1.trans xw.toS
 have hlw:=hL.len (by omega) hs2
 obtain ⟨v',h5,a5,hO5,hext5,hkp5,hoth5,_,_,_⟩:=ways_one apR mkR (hO.ext xw) hW KidsAt.nil (ext_bn hx12 hb2) hx12.next hx12.nfam (by omega)
 have hx5:=hext5 (Only xb) h2 hx12 (Nat.le_refl _) (Nat.le_refl _)
 obtain ⟨Ao,hvo,hspo⟩:=hO.slice
 obtain ⟨An,hvn,hspn⟩:=hO5.slice
 rw [hvo] at r7 a5
 rw [hvn] at a5
 unfold encR at a5
 simp -dsimp only [go_sem,r2,r7,sameN_sliceA hspo,sameN_sliceA hspn,bs82 1 (by decide),repeatN,builtin',a5,hr]
 rw [←hvn]
 refine ⟨z,wo++[([],q)],hx0.toS.trans hx5,hoth5 _ _ _ (by decide) (own_ext xw hX1),(hO5.low hx0.next hx0.nfam).more (fun b _ c=>Nat.lt_of_lt_of_le c hx0.next) (fun f c=>.inl ⟨c.1,Nat.lt_of_lt_of_le c.2 hx0.nfam⟩),?_⟩
 rcases hL.done hend rfl with ⟨d1,d2,k',U,X,hk',hz⟩|⟨d1,d2,d3,d4⟩
 ·rcases hcase with ⟨k,o,hrun,e1,e2,rfl⟩|⟨e1,_⟩
  ·refine .inl ⟨_,_,runW_two (t:=.again x q) (fun rc=>rfl) hrun hk',?_,d1,rfl⟩
   simp only [againW]
   omega
  ·omega
 ·refine .inr ⟨d1,d2,fun c=>by omega,?_,okH_app d4 (okH_one hq)⟩
  rw [List.length_append]
  simp only [List.length_cons,List.length_nil]
  omega
end Go.Ev.G24
end
section
namespace Go.Ev.G24
open Go.RowKit Go.Proofs
variable {r:Ro} {G:List Rule} {items:List ByteArray} {Gv Iv:Option Addr} {gc ic xb:Nat}
theorem take_map_succ {α β:Type} (f:α→β) {l:List α} {j:Nat} {w:α} (hj:l[j]? = some w):(l.take (j+1)).map f=(l.take j).map f++[f w]:=by
 have hl:=get_lt' hj
 rw [List.take_succ_eq_append_getElem hl,List.map_append]
 rw [List.getElem?_eq_getElem hl] at hj
 injection hj with hj
 rw [hj]
 rfl
set_option maxHeartbeats 8000000 in
set_option maxRecDepth 10000 in
theorem walk_map_rule {h0 hs:Hp} {nr fr:Nat} {wr:List Way} {vr:Value} {z:Int} {pb:Nat} {d t:ByteArray} {kvp:Value} (hb:h0.base≤h0.next) (hx:ExtS (Only xb) h0 hs) (hX:hs.own xb 81 (wR G items Gv Iv gc ic z)) (hxn:xb<h0.next) (hP:hs.own pb 52 [.string d,.string t,kvp])
  (hR:WR hs nr fr (OldB h0) (OldF h0) wr vr) (hlen:wr.length≤500000)
  {a:Ev.A} {Q:Ex→Ev.A→Hp→Prop} (hn:a.n=200) (g4:a.get 4=.pointer (some ⟨pb,0,none⟩)) (gL:a.get 7=vr) (gO:a.get 8=.slice none 0 0) (gI:a.get 9=.int .i64 0)
  (hq:∀a1 h1 vo,a1.n=200→ExtS (Only xb) h0 h1→h1.own xb 81 (wR G items Gv Iv gc ic z)→WR h1 h0.next h0.nfam (OldB h0) (OldF h0) (wr.map fun w=>([ruleT t w.1],w.2)) vo→a1.get 8=vo→Q (.exit 1) a1 h1) :
  Th Try.prog (bodyAt Try.f43 [1,1,1,0,1,0,1,1,1,0,1,1,0,1,0]) a hs Q ⟨⟩ ⟨⟩:=by
 obtain ⟨Ar,hvr,hspr⟩:=hR.slice
 simp only [bodyAt,nav,Try.f43]
 refine loop_go (n:=200) (by kernel_rfl) (fun m' a' h'=>∃(j:Nat) (v:Value),j≤wr.length∧m'=wr.length - j∧ExtS (Only xb) h0 h'∧h'.own xb 81 (wR G items Gv Iv gc ic z)∧h'.own pb 52 [.string d,.string t,kvp]∧WR h' h0.next h0.nfam (OldB h0) (OldF h0) ((wr.take j).map fun w=>([ruleT t w.1],w.2)) v∧WR h' nr fr (fun x=>OldB h0 x∨ownB v x) (fun q=>OldF h0 q∨ownF h' v q) wr vr∧Beside h' vr v ∧
  a'.get 4=.pointer (some ⟨pb,0,none⟩)∧a'.get 7=vr∧a'.get 8=v∧a'.get 9=.int .i64 j) ?_ wr.length _ _ hn ⟨0,_,Nat.zero_le _,rfl,hx,hX,hP,WaysAt.nil,hR.more (fun b _ c=>c.elim id (fun c=>c.elim)) (fun f c=>.inl (c.elim id (fun c=>c.elim))),⟨fun b c c'=>c'.elim,fun f c c'=>c'.elim⟩,g4,gL,gO,gI⟩
 rintro m' a' h' hn' ⟨j,v,hj,rfl,hx',hX',hP',hO',hR',hDR',e4,eL,eO,eI⟩
 have hb':h'.base≤h'.next:=ext_bn hx' hb
 by_cases hlt:j<wr.length
 ·obtain ⟨⟨ks,en⟩,hwj⟩:∃w,wr[j]? = some w:=⟨_,List.getElem?_eq_getElem hlt⟩
  have hi1:decide ((j:Int)<(wr.length:Int))=true:=decide_eq_true (Int.ofNat_lt.2 hlt)
  obtain ⟨br,Ark,crk,hvr2,hsprk,Kr,ldr⟩:=hR'.getR hwj
  have hrow:=own_new hb' 31 [.string ⟨#[114,117,108,101]⟩,.string t,.slice Ark ks.length crk]
  have x1:=Ext.new h' (CObj.cells ⟨[.string ⟨#[114,117,108,101]⟩,.string t,.slice Ark ks.length crk],31,0,0,false⟩)
  obtain ⟨lr0,le0⟩:=ldr _ (Ext.refl h')
  obtain ⟨lr1,le1⟩:=ldr _ x1
  have hP1:=own_ext x1 hP'
  have hX1:=own_ext x1 hX'
  have hO1:=hO'.ext x1
  have hb1:=ext_bn (x1.toS (S:=Only xb)) hb'
  have hnb:¬(OldB h0 h'.next∨ownB v h'.next):=fun c=>c.elim (fun c=>by have:=hx'.next;have:h'.next<h0.next:=c;omega) (fun c=>by have:=(hO'.lt c).2;omega)
  have hnf:¬(OldF h0 0∨ownF h' v 0):=fun c=>c.elim (fun c=>c.1 rfl) (fun c=>(hO'.flt c).1 rfl)
  have K1:KidsAt _ (fun x=>OldB h0 x∨ownB v x) (fun q=>OldF h0 q∨ownF h' v q) [ruleT t ks] (.slice (some ⟨h'.next,0,none⟩) 1 1):=kids_new hrow hnb hnf ((Kr.more (fun b _ c=>.inl c) (fun f c=>.inl (.inl c))).keep (keepsE x1).any)
  clear hnb hnf
  rw [hvr2] at eL
  obtain ⟨Ao,hvo,hspo⟩:=hO'.slice
  rw [hvo] at eO
  simp -dsimp only [go_sem,e4,eL,eO,eI,hi1]
  refine Dw_text (n:=200) [[],[],[1],[],[],[3,4],[3,4,5],[3,4,5,6],[1,2,3,4,5,6,7],[1,2,3,4,5,6,7,8],[],[],[10,11],[10,11,12],[10,11,12,13],[1,2,3,4,5,6,7,8,9,10,11,12,13,14],[1,2,3,4,5,6,7,8,9,10,11,12,13,14,15],[0,1,2,3,4,5,6,7,8,9,10,11,12,13,14,15,16],[0,1,2,3,4,5,6,7,8,9,10,11,12,13,14,15,16,17]] (by simp -dsimp only [go_sem,hn']) (by kernel_rfl) ?_
  simp -dsimp only [go_sem,e4,eL,eO,eI,load_own hP',load_own hP1,sameN_sliceA hspo,sameN_sliceA hsprk,bs29 1 (by decide),bs82 1 (by decide),repeatN,ia82 hlt,lr0,lr1,le0,le1]
  generalize (h'.newH (CObj.cells ⟨[.string ⟨#[114,117,108,101]⟩,.string t,.slice Ark ks.length crk],31,0,0,false⟩))=h2 at hrow x1 hP1 hX1 hO1 hb1 K1 lr1 le1 ⊢
  have hW:=own_new hb1 85 (encR (.slice (some ⟨h'.next,0,none⟩) 1 1) en)
  have x3:=Ext.new h2 (CObj.cells { c:=encR (.slice (some ⟨h'.next,0,none⟩) 1 1) en,e:=85,fam:=0,base:=0,grown:=false })
  have x03:=x1.trans x3
  have hO3:=hO'.ext x03
  have hb3:=ext_bn (x3.toS (S:=Only xb)) hb1
  have K3:KidsAt (h2.newH (CObj.cells { c:=encR (.slice (some ⟨h'.next,0,none⟩) 1 1) en,e:=85,fam:=0,base:=0,grown:=false })) (fun x=>OldB h0 x∨ownB v x) (fun q=>OldF h0 q∨ownF (h2.newH (CObj.cells { c:=encR (.slice (some ⟨h'.next,0,none⟩) 1 1) en,e:=85,fam:=0,base:=0,grown:=false })) v q) [ruleT t ks] (.slice (some ⟨h'.next,0,none⟩) 1 1) :=
   (K1.keep (keepsE x3).any).more (fun b _ c=>c) (fun f c=>.inl (c.elim .inl (fun c=>.inr (hO'.ownF_same (S:=fun _=>False) x03.toS (fun _ _ c=>c) c))))
  have hxh:ExtS (Only xb) h0 _:=hx'.trans x03.toS
  obtain ⟨v',h4,a4,hO4,hext4,hkp4,hoth4,hB4,hF4,hke4⟩:=ways_one apR mkR hO3 hW K3 hb3 hxh.next hxh.nfam (by rw [List.length_map,List.length_take];omega)
  have hx4:=hext4 (Only xb) h0 hxh (Nat.le_refl _) (Nat.le_refl _)
  have hu0:¬ownF _ v 0:=fun c=>(hO3.flt c).1 rfl
  obtain ⟨hR4,hDR4⟩:=(hO'.extF x03 hR').beside (hDR'.ext x03 hR' hO') hu0 hkp4 hke4 hB4 hF4 (fun q c=>(hO4.flt c).1)
  have hst:=take_map_succ (fun w:Way=>([ruleT t w.1],w.2)) hwj
  rw [←hst] at hO4
  obtain ⟨An,hvn,hspn⟩:=hO4.slice
  rw [hvo,hvn] at a4
  unfold encR at a4
  simp -dsimp only [go_sem,e4,eL,eO,eI,sameN_sliceA hspn,builtin',a4,wrap64_succ hlt (by omega)]
  exact ⟨wr.length - (j+1),by omega,j+1,v',hlt,rfl,hx4,hoth4 _ _ _ (by decide) (own_ext x03 hX'),hoth4 _ _ _ (by decide) (own_ext x03 hP'),hO4,hR4,hDR4,hvr2.symm,hvn.symm,rfl⟩
 ·have hi0:decide ((j:Int)<(wr.length:Int))=false:=decide_eq_false (by omega)
  have hjl:j=wr.length:=by omega
  subst hjl
  rw [List.take_length] at hO'
  rw [hvr] at eL
  simp -dsimp only [go_sem,eL,eO,eI,hi0]
  exact hq _ h' v (by simp -dsimp only [go_sem,hn']) hx' hX' hO' (by simp -dsimp only [go_sem,eO])
set_option maxHeartbeats 8000000 in
set_option maxRecDepth 10000 in
theorem walk_map_many {h0 hs:Hp} {nr fr:Nat} {wr:List Way} {vr:Value} {z:Int} {pb:Nat} {d t:ByteArray} {kvp:Value} (hb:h0.base≤h0.next) (hx:ExtS (Only xb) h0 hs) (hX:hs.own xb 81 (wR G items Gv Iv gc ic z)) (hxn:xb<h0.next) (hP:hs.own pb 52 [.string d,.string t,kvp])
  (hR:WR hs nr fr (OldB h0) (OldF h0) wr vr) (hlen:wr.length≤500000)
  {a:Ev.A} {Q:Ex→Ev.A→Hp→Prop} (hn:a.n=200) (g4:a.get 4=.pointer (some ⟨pb,0,none⟩)) (gL:a.get 12=vr) (gO:a.get 13=.slice none 0 0) (gI:a.get 14=.int .i64 0)
  (hq:∀a1 h1 vo,a1.n=200→ExtS (Only xb) h0 h1→h1.own xb 81 (wR G items Gv Iv gc ic z)→WR h1 h0.next h0.nfam (OldB h0) (OldF h0) (wr.map fun w=>([manyT w.1],w.2)) vo→a1.get 13=vo→Q (.exit 5) a1 h1) :
  Th Try.prog (bodyAt Try.f43 [1,1,1,0,1,0,1,1,1,1,1,1,1,1,1,0,1,1,0,1,0]) a hs Q ⟨⟩ ⟨⟩:=by
 obtain ⟨Ar,hvr,hspr⟩:=hR.slice
 simp only [bodyAt,nav,Try.f43]
 refine loop_go (n:=200) (by kernel_rfl) (fun m' a' h'=>∃(j:Nat) (v:Value),j≤wr.length∧m'=wr.length - j∧ExtS (Only xb) h0 h'∧h'.own xb 81 (wR G items Gv Iv gc ic z)∧h'.own pb 52 [.string d,.string t,kvp]∧WR h' h0.next h0.nfam (OldB h0) (OldF h0) ((wr.take j).map fun w=>([manyT w.1],w.2)) v∧WR h' nr fr (fun x=>OldB h0 x∨ownB v x) (fun q=>OldF h0 q∨ownF h' v q) wr vr∧Beside h' vr v ∧
  a'.get 4=.pointer (some ⟨pb,0,none⟩)∧a'.get 12=vr∧a'.get 13=v∧a'.get 14=.int .i64 j) ?_ wr.length _ _ hn ⟨0,_,Nat.zero_le _,rfl,hx,hX,hP,WaysAt.nil,hR.more (fun b _ c=>c.elim id (fun c=>c.elim)) (fun f c=>.inl (c.elim id (fun c=>c.elim))),⟨fun b c c'=>c'.elim,fun f c c'=>c'.elim⟩,g4,gL,gO,gI⟩
 rintro m' a' h' hn' ⟨j,v,hj,rfl,hx',hX',hP',hO',hR',hDR',e4,eL,eO,eI⟩
 have hb':h'.base≤h'.next:=ext_bn hx' hb
 by_cases hlt:j<wr.length
 ·obtain ⟨⟨ks,en⟩,hwj⟩:∃w,wr[j]? = some w:=⟨_,List.getElem?_eq_getElem hlt⟩
  have hi1:decide ((j:Int)<(wr.length:Int))=true:=decide_eq_true (Int.ofNat_lt.2 hlt)
  obtain ⟨br,Ark,crk,hvr2,hsprk,Kr,ldr⟩:=hR'.getR hwj
  have hrow:=own_new hb' 31 [.string ⟨#[109,97,110,121]⟩,.string ⟨#[]⟩,.slice Ark ks.length crk]
  have x1:=Ext.new h' (CObj.cells ⟨[.string ⟨#[109,97,110,121]⟩,.string ⟨#[]⟩,.slice Ark ks.length crk],31,0,0,false⟩)
  obtain ⟨lr0,le0⟩:=ldr _ (Ext.refl h')
  obtain ⟨lr1,le1⟩:=ldr _ x1
  have hP1:=own_ext x1 hP'
  have hX1:=own_ext x1 hX'
  have hO1:=hO'.ext x1
  have hb1:=ext_bn (x1.toS (S:=Only xb)) hb'
  have hnb:¬(OldB h0 h'.next∨ownB v h'.next):=fun c=>c.elim (fun c=>by have:=hx'.next;have:h'.next<h0.next:=c;omega) (fun c=>by have:=(hO'.lt c).2;omega)
  have hnf:¬(OldF h0 0∨ownF h' v 0):=fun c=>c.elim (fun c=>c.1 rfl) (fun c=>(hO'.flt c).1 rfl)
  have K1:KidsAt _ (fun x=>OldB h0 x∨ownB v x) (fun q=>OldF h0 q∨ownF h' v q) [manyT ks] (.slice (some ⟨h'.next,0,none⟩) 1 1):=kids_new hrow hnb hnf ((Kr.more (fun b _ c=>.inl c) (fun f c=>.inl (.inl c))).keep (keepsE x1).any)
  clear hnb hnf
  rw [hvr2] at eL
  obtain ⟨Ao,hvo,hspo⟩:=hO'.slice
  rw [hvo] at eO
  simp -dsimp only [go_sem,e4,eL,eO,eI,hi1]
  refine Dw_text (n:=200) [[],[],[],[1,2],[1,2,3],[1,2,3,4],[1,2,3,4,5],[1,2,3,4,5,6],[],[],[8,9],[8,9,10],[8,9,10,11],[1,2,3,4,5,6,7,8,9,10,11,12],[1,2,3,4,5,6,7,8,9,10,11,12,13],[0,1,2,3,4,5,6,7,8,9,10,11,12,13,14],[0,1,2,3,4,5,6,7,8,9,10,11,12,13,14,15]] (by simp -dsimp only [go_sem,hn']) (by kernel_rfl) ?_
  simp -dsimp only [go_sem,e4,eL,eO,eI,sameN_sliceA hspo,sameN_sliceA hsprk,bs29 1 (by decide),bs82 1 (by decide),repeatN,ia82 hlt,lr0,lr1,le0,le1]
  generalize (h'.newH (CObj.cells ⟨[.string ⟨#[109,97,110,121]⟩,.string ⟨#[]⟩,.slice Ark ks.length crk],31,0,0,false⟩))=h2 at hrow x1 hP1 hX1 hO1 hb1 K1 lr1 le1 ⊢
  have hW:=own_new hb1 85 (encR (.slice (some ⟨h'.next,0,none⟩) 1 1) en)
  have x3:=Ext.new h2 (CObj.cells { c:=encR (.slice (some ⟨h'.next,0,none⟩) 1 1) en,e:=85,fam:=0,base:=0,grown:=false })
  have x03:=x1.trans x3
  have hO3:=hO'.ext x03
  have hb3:=ext_bn (x3.toS (S:=Only xb)) hb1
  have K3:KidsAt (h2.newH (CObj.cells { c:=encR (.slice (some ⟨h'.next,0,none⟩) 1 1) en,e:=85,fam:=0,base:=0,grown:=false })) (fun x=>OldB h0 x∨ownB v x) (fun q=>OldF h0 q∨ownF (h2.newH (CObj.cells { c:=encR (.slice (some ⟨h'.next,0,none⟩) 1 1) en,e:=85,fam:=0,base:=0,grown:=false })) v q) [manyT ks] (.slice (some ⟨h'.next,0,none⟩) 1 1) :=
   (K1.keep (keepsE x3).any).more (fun b _ c=>c) (fun f c=>.inl (c.elim .inl (fun c=>.inr (hO'.ownF_same (S:=fun _=>False) x03.toS (fun _ _ c=>c) c))))
  have hxh:ExtS (Only xb) h0 _:=hx'.trans x03.toS
  obtain ⟨v',h4,a4,hO4,hext4,hkp4,hoth4,hB4,hF4,hke4⟩:=ways_one apR mkR hO3 hW K3 hb3 hxh.next hxh.nfam (by rw [List.length_map,List.length_take];omega)
  have hx4:=hext4 (Only xb) h0 hxh (Nat.le_refl _) (Nat.le_refl _)
  have hu0:¬ownF _ v 0:=fun c=>(hO3.flt c).1 rfl
  obtain ⟨hR4,hDR4⟩:=(hO'.extF x03 hR').beside (hDR'.ext x03 hR' hO') hu0 hkp4 hke4 hB4 hF4 (fun q c=>(hO4.flt c).1)
  have hst:=take_map_succ (fun w:Way=>([manyT w.1],w.2)) hwj
  rw [←hst] at hO4
  obtain ⟨An,hvn,hspn⟩:=hO4.slice
  rw [hvo,hvn] at a4
  unfold encR at a4
  simp -dsimp only [go_sem,e4,eL,eO,eI,sameN_sliceA hspn,builtin',a4,wrap64_succ hlt (by omega)]
  exact ⟨wr.length - (j+1),by omega,j+1,v',hlt,rfl,hx4,hoth4 _ _ _ (by decide) (own_ext x03 hX'),hoth4 _ _ _ (by decide) (own_ext x03 hP'),hO4,hR4,hDR4,hvr2.symm,hvn.symm,rfl⟩
 ·have hi0:decide ((j:Int)<(wr.length:Int))=false:=decide_eq_false (by omega)
  have hjl:j=wr.length:=by omega
  subst hjl
  rw [List.take_length] at hO'
  rw [hvr] at eL
  simp -dsimp only [go_sem,eL,eO,eI,hi0]
  exact hq _ h' v (by simp -dsimp only [go_sem,hn']) hx' hX' hO' (by simp -dsimp only [go_sem,eO])
def AltW (G:List Rule) (items:List ByteArray) (l:List Part) (q N:Nat) (s:Int) (i:Nat) (wo:List Way) (z:Int):Prop :=
 okH N (s.toNat+1) wo∧((0≤z∧(wo.length:Int)+z≤s∧∃U X:Nat,z=s - (U:Int) - (X:Int)∧∀k o,runW G items k (.alts (l.drop i) q)=some o→∃k',runW G items k' (.alts l q)=some (wo++o.1,U+o.2.1,X+o.2.2)) ∨
  (z<0 ∧ -((s+1)*200001) - (i:Int)≤z∧wo.length≤2*(s.toNat+1)))
theorem AltW.start {l:List Part} {q N:Nat} {s:Int} (h:0≤s):AltW G items l q N s 0 [] s :=
 ⟨fun w hw=>by simp at hw,.inl ⟨h,by simp,0,0,by simp,fun k o e=>⟨k,by rw [List.drop_zero] at e;rw [e];simp⟩⟩⟩
theorem AltW.step {l:List Part} {q:Nat} {p:Part} {s z z':Int} {wo ws:List Way} {i:Nat} (hs:0≤s) (hs2:s≤50000) (hq:q≤items.length) (hi:l[i]? = some p) (L:AltW G items l q items.length s i wo z)
  (hsub:(∃k o,runW G items k (.part p q)=some o∧z'=z - (o.2.1:Int) - (o.2.2:Int)∧0≤z'∧ws=o.1)∨(z'<0∧lowW z≤z'∧deadW items.length z ws)):AltW G items l q items.length s (i+1) (wo++ws) z':=by
 obtain ⟨L1,L2⟩:=L
 have hll:(wo++ws).length=wo.length+ws.length:=List.length_append
 rcases L2 with ⟨hz,b,U,X,hU,hcont⟩|⟨hz,hlo2,hwl⟩
 ·rcases hsub with ⟨k,o,hrun,hz',hz0,rfl⟩|⟨hz0,hlo,_,hwl,hdo⟩
  ·have hlen:=runW_len _ _ _ hrun
   have hok2:=runW_ok rfl _ _ _ 0 hrun (by exact ⟨hq,rfl⟩) (by omega)
   have hsl:slackW (.part p q)=0:=rfl
   refine ⟨okH_app L1 (hok2.mono (by omega)),.inl ⟨hz0,by omega,U+o.2.1,X+o.2.2,by omega,fun k2 o2 h2 => ?_⟩⟩
   have hdr:l.drop i=p::l.drop (i+1):=by
    have hl:=get_lt' hi
    rw [List.drop_eq_getElem_cons hl]
    rw [List.getElem?_eq_getElem hl] at hi
    injection hi with hi
    rw [hi]
   have h3:=runW_two (t:=.alts (p::l.drop (i+1)) q) (fun rc=>rfl) hrun h2
   obtain ⟨k',hk'⟩:=hcont _ _ (by rw [hdr];exact h3)
   refine ⟨k',?_⟩
   rw [hk']
   simp only [altW,List.append_assoc,Option.some.injEq,Prod.mk.injEq,true_and]
   constructor<;>omega
  ·refine ⟨okH_app L1 (hdo.mono (by omega)),.inr ⟨hz0,?_,by omega⟩⟩
   unfold lowW at hlo
   rw [if_neg (by omega)] at hlo
   omega
 ·rcases hsub with ⟨k,o,hrun,hz',hz0,rfl⟩|⟨hz0,hlo,hno,_,_⟩
  ·omega
  ·have hno:=hno hz
   subst hno
   rw [List.append_nil]
   unfold lowW at hlo
   rw [if_pos hz] at hlo
   exact ⟨L1,.inr ⟨hz0,by omega,hwl⟩⟩
theorem AltW.done {l:List Part} {q:Nat} {s z:Int} {wo:List Way} (L:AltW G items l q items.length s l.length wo z) :
  (∃k o,runW G items k (.alts l q)=some o∧z=s - (o.2.1:Int) - (o.2.2:Int)∧0≤z∧wo=o.1)∨(z<0 ∧ -((s+1)*200001) - (l.length:Int)≤z∧wo.length≤2*(s.toNat+1)∧okH items.length (s.toNat+1) wo):=by
 obtain ⟨L1,L2⟩:=L
 rcases L2 with ⟨hz,b,U,X,hU,hcont⟩|⟨hz,hlo2,hwl⟩
 ·obtain ⟨k',hk'⟩:=hcont 1 ([],0,0) (by rw [List.drop_length];rfl)
  exact .inl ⟨k',_,hk',by simpa using hU,hz,by simp⟩
 ·exact .inr ⟨hz,hlo2,hwl,L1⟩
set_option maxHeartbeats 8000000 in
set_option maxRecDepth 10000 in
theorem walk_or {d t:ByteArray} {l:List Part} {Av:Option Addr} {c b o pb q:Nat} {css:Nat→List Value} {s:Int} (ihp:∀z,-100000000000≤z→z≤s→∀(i:Nat) (p:Part),l[i]? = some p→PartW r G items Gv Iv gc ic xb z p)
  (hlb:l.length≤100000) (hA:l≠[]→Av=some ⟨b,o,none⟩) (hat:∀(i:Nat) (p:Part),l[i]? = some p→roAt r b (o+i*3) (css i)) (hk:∀(i:Nat) (p:Part),l[i]? = some p→RoPart r p (css i))
  {h2:Hp} {a:Ev.A} {Q:Ex→Ev.A→Hp→Prop} (hn:a.n=200) (hrom:h2.rom=r) (hb2:h2.base≤h2.next) (hX:h2.own xb 81 (wR G items Gv Iv gc ic s)) (hP:h2.own pb 52 [.string d,.string t,.slice Av l.length c]) (hpx:pb≠xb)
  (hs0:0≤s) (hs2:s≤50000) (hq':q≤items.length)
  (g0:a.get 0=.pointer (some ⟨xb,0,none⟩)) (g2:a.get 2=.int .i64 (q:Int)) (g4:a.get 4=.pointer (some ⟨pb,0,none⟩)) (g10:a.get 10=.slice none 0 0) (g11:a.get 11=.int .i64 0)
  (hq:∀a1 h1 wo vo z,a1.n=200→ExtS (Only xb) h2 h1→h1.own xb 81 (wR G items Gv Iv gc ic z)→WR h1 h2.next h2.nfam (OldB h2) (OldF h2) wo vo→AltW G items l q items.length s l.length wo z→a1.get 10=vo→Q (.exit 3) a1 h1) :
  Th Try.prog (bodyAt Try.f43 [1,1,1,0,1,0,1,1,1,1,1,1,1,0,1,0,1,0]) a h2 Q ⟨⟩ ⟨⟩:=by
 simp only [bodyAt,nav,Try.f43]
 have hxn:xb<h2.next:=hX.2.1
 refine loop_go (n:=200) (by kernel_rfl) (fun m' a' h'=>∃(i:Nat) (wo:List Way) (vo:Value) (z:Int),i≤l.length∧m'=l.length - i∧ExtS (Only xb) h2 h'∧h'.own xb 81 (wR G items Gv Iv gc ic z)∧WR h' h2.next h2.nfam (OldB h2) (OldF h2) wo vo∧AltW G items l q items.length s i wo z ∧
  a'.get 0=.pointer (some ⟨xb,0,none⟩)∧a'.get 2=.int .i64 (q:Int)∧a'.get 4=.pointer (some ⟨pb,0,none⟩)∧a'.get 10=vo∧a'.get 11=.int .i64 i) ?_ l.length _ _ hn ⟨0,[],_,s,Nat.zero_le _,rfl,(Ext.refl _).toS,hX,WaysAt.nil,AltW.start hs0,g0,g2,g4,g10,g11⟩
 rintro m' a' h' hn' ⟨i,wo,vo,z,hi,rfl,hx,hX',hO',hL,e0,e2,e4,e10,e11⟩
 have hrom':h'.rom=r:=ext_rom hx hrom
 have hb':h'.base≤h'.next:=ext_bn hx hb2
 have hP':=own_extS hx hP hpx
 by_cases hlt:i<l.length
 ·have hpi:l[i]? = some l[i]:=List.getElem?_eq_getElem hlt
  have hi1:decide ((i:Int)<(l.length:Int))=true:=decide_eq_true (Int.ofNat_lt.2 hlt)
  obtain ⟨Av1,c1',hcs⟩:=(hk i _ hpi).shape
  have hat':=hat i _ hpi
  have hkid:=hk i _ hpi
  rw [hcs] at hat' hkid
  have hAv:=hA (ne_nil hlt)
  subst hAv
  have hzb : -100000000000≤z∧z≤s∧wo.length≤200000:=by
   rcases hL.2 with ⟨a,b,_⟩|⟨a,b,c⟩<;>omega
  obtain ⟨v4,h4,hs4,z',ws,hx4,hX4,hR4,hcase⟩:=ihp z hzb.1 hzb.2.1 i _ hpi q h' _ hq' hrom' hb' hX' hkid
  have hwb:ws.length≤200000:=by
   rcases hcase with ⟨k,o,hrun,e1,e2,e3⟩|⟨e1,e2,e3,e4,_⟩
   ·have:=runW_len _ _ _ hrun
    have hsl:slackW (.part l[i] q)=0:=rfl
    subst e3
    omega
   ·omega
  have hxbo:∀b,ownB vo b→¬Only xb b:=fun b c d=>by have:=(hO'.lt c).1;have:b=xb:=d;omega
  have hO4:WR h4 h2.next h2.nfam (OldB h2) (OldF h2) wo vo:=hO'.extS hx4 (noRow_own hX' (by decide)) hxbo
  obtain ⟨hR4',hDR4⟩:=ways_lift hx hx4 hxbo hO' hR4
  have hx24:=hx.trans hx4
  obtain ⟨v',h5,a5,hO5,hext5,hkp5,hoth5,_,_,_⟩:=ways_all apR mkR hO4 hR4' (ext_bn hx24 hb2) hx24.next hx24.nfam (by omega)
  have hx5:=hext5 (Only xb) h2 hx24 (Nat.le_refl _) (Nat.le_refl _)
  simp -dsimp only [go_sem,e0,e2,e4,e10,e11,hi1,load_own hP',ia50 hlt,loads_ro (n:=3) hrom' hat' rfl]
  refine ⟨_,h4,hs4,?_⟩
  simp -dsimp only [go_sem,e0,e2,e4,e10,e11,builtin',a5,wrap64_succ hlt (Nat.le_trans hlb (by decide))]
  exact ⟨l.length - (i+1),by omega,i+1,wo++ws,v',z',hlt,rfl,hx5,hoth5 _ _ _ (by decide) hX4,hO5,hL.step hs0 hs2 hq' hpi hcase,rfl,rfl⟩
 ·have hi0:decide ((i:Int)<(l.length:Int))=false:=decide_eq_false (by omega)
  have hil:i=l.length:=by omega
  subst hil
  simp -dsimp only [go_sem,e0,e2,e4,e10,e11,hi0,load_own hP']
  exact hq _ h' wo vo z (by simp -dsimp only [go_sem,hn']) hx hX' hO' hL (by simp -dsimp only [go_sem,e10])
end Go.Ev.G24
end
section
namespace Go.Ev.G24
open Go.RowKit Go.Proofs
variable {r:Ro} {G:List Rule} {items:List ByteArray} {Gv Iv:Option Addr} {gc ic xb:Nat}
theorem runW_one {d t:ByteArray} {l:List Part} {q k:Nat} (h:d.data.toList=[105,115]):runW G items (k+1) (.part ⟨d,t,l⟩ q)=some (oneW items (some t) q):=by
 show stepPW G items (runW G items k) d t l q=_
 unfold stepPW
 rw [if_pos h]
theorem runW_any {d t:ByteArray} {l:List Part} {q k:Nat} (h:d.data.toList=[97,110,121]):runW G items (k+1) (.part ⟨d,t,l⟩ q)=some (oneW items none q):=by
 show stepPW G items (runW G items k) d t l q=_
 unfold stepPW
 rw [if_neg (by rw [h];decide),if_pos h]
theorem runW_rule {d t:ByteArray} {l:List Part} {q k:Nat} (h:d.data.toList=[114,117,108,101]):runW G items (k+1) (.part ⟨d,t,l⟩ q)=(runW G items k (.part (bodyOf G t) q)).map (ruleW t):=by
 show stepPW G items (runW G items k) d t l q=_
 unfold stepPW
 rw [if_neg (by rw [h];decide),if_neg (by rw [h];decide),if_pos h]
theorem runW_sq {d t:ByteArray} {l:List Part} {q k:Nat} (h:d.data.toList=[115,101,113]):runW G items (k+1) (.part ⟨d,t,l⟩ q)=(runW G items k (.row l q)).map plusW:=by
 show stepPW G items (runW G items k) d t l q=_
 unfold stepPW
 rw [if_neg (by rw [h];decide),if_neg (by rw [h];decide),if_neg (by rw [h];decide),if_pos h]
theorem runW_or {d t:ByteArray} {l:List Part} {q k:Nat} (h:d.data.toList=[111,114]):runW G items (k+1) (.part ⟨d,t,l⟩ q)=(runW G items k (.alts l q)).map plusW:=by
 show stepPW G items (runW G items k) d t l q=_
 unfold stepPW
 rw [if_neg (by rw [h];decide),if_neg (by rw [h];decide),if_neg (by rw [h];decide),if_neg (by rw [h];decide),if_pos h]
theorem runW_mn {d t:ByteArray} {x:Part} {q k:Nat} (h:d.data.toList=[109,97,110,121]):runW G items (k+1) (.part ⟨d,t,[x]⟩ q)=(runW G items k (.again x q)).map manyW:=by
 show stepPW G items (runW G items k) d t [x] q=_
 unfold stepPW
 rw [if_neg (by rw [h];decide),if_neg (by rw [h];decide),if_neg (by rw [h];decide),if_neg (by rw [h];decide),if_neg (by rw [h];decide),if_pos h]
 rfl
theorem runW_opt {d t:ByteArray} {x:Part} {q k:Nat} (h:d.data.toList=[111,112,116]):runW G items (k+1) (.part ⟨d,t,[x]⟩ q)=(runW G items k (.part x q)).map (optW q):=by
 show stepPW G items (runW G items k) d t [x] q=_
 unfold stepPW
 rw [if_neg (by rw [h];decide),if_neg (by rw [h];decide),if_neg (by rw [h];decide),if_neg (by rw [h];decide),if_neg (by rw [h];decide),if_neg (by rw [h];decide),if_pos h]
 rfl
theorem runW_not {d t:ByteArray} {x:Part} {q k:Nat} (h:d.data.toList=[110,111,116]):runW G items (k+1) (.part ⟨d,t,[x]⟩ q)=(runW G items k (.part x q)).map (notW q):=by
 show stepPW G items (runW G items k) d t [x] q=_
 unfold stepPW
 rw [if_neg (by rw [h];decide),if_neg (by rw [h];decide),if_neg (by rw [h];decide),if_neg (by rw [h];decide),if_neg (by rw [h];decide),if_neg (by rw [h];decide),if_neg (by rw [h];decide),if_pos h]
 rfl
theorem runW_else {d t:ByteArray} {l:List Part} {q k:Nat} (c1:¬d.data.toList=[105,115]) (c2:¬d.data.toList=[97,110,121]) (c3:¬d.data.toList=[114,117,108,101]) (c4:¬d.data.toList=[115,101,113]) (c5:¬d.data.toList=[111,114]) (c6:¬d.data.toList=[109,97,110,121]) (c7:¬d.data.toList=[111,112,116]) (c8:¬d.data.toList=[110,111,116]) :
  runW G items (k+1) (.part ⟨d,t,l⟩ q)=some ([([],q)],1,0):=by
 show stepPW G items (runW G items k) d t l q=_
 unfold stepPW
 rw [if_neg c1,if_neg c2,if_neg c3,if_neg c4,if_neg c5,if_neg c6,if_neg c7,if_neg c8]
theorem mapW_some {o:OutW} {f:OutW→OutW} {x:Option OutW} (h:x=some o):x.map f=some (f o):=by rw [h];rfl
theorem WR.pre {h h2 h1:Hp} {ws:List Way} {v:Value} (x:ExtS (Only xb) h h2) (k:WR h1 h2.next h2.nfam (OldB h2) (OldF h2) ws v):WR h1 h.next h.nfam (OldB h) (OldF h) ws v :=
 (k.low x.next x.nfam).more (fun b _ c=>Nat.lt_of_lt_of_le c x.next) (fun f c=>.inl ⟨c.1,Nat.lt_of_lt_of_le c.2 x.nfam⟩)
theorem lowW_step {s s':Int} (h1:1≤s) (h:lowW (s - 1)≤s'):lowW s≤s':=by
 unfold lowW at h ⊢
 rw [if_neg (by omega)] at h ⊢
 omega
theorem WalkP.plus {t t':TaskW} {h h2 h1:Hp} {s:Int} {v:Value} (x:ExtS (Only xb) h h2) (hs:1≤s) (st:∀k o,runW G items k t=some o→∃k',runW G items k' t'=some (plusW o)) (k:WalkP G items Gv Iv gc ic xb t (s - 1) (lowW (s - 1)) h2 v h1):WalkP G items Gv Iv gc ic xb t' s (lowW s) h v h1:=by
 obtain ⟨s',ws,a1,a2,a3,a4⟩:=k
 refine ⟨s',ws,x.trans a1,a2,WR.pre x a3,?_⟩
 rcases a4 with ⟨k,o,b1,b2,b3,b4⟩|⟨b1,b2,b3,b4,b5⟩
 ·obtain ⟨k',hk'⟩:=st k o b1
  refine .inl ⟨k',_,hk',?_,b3,b4⟩
  simp only [plusW]
  omega
 ·exact .inr ⟨b1,lowW_step hs b2,fun c=>by omega,by omega,b5.mono (by omega)⟩
set_option maxHeartbeats 4000000 in
set_option maxRecDepth 10000 in
theorem walk_neg {p:Part} {s:Int} (hs:s≤0) (hs1 : -1000000000000≤s):PartW r G items Gv Iv gc ic xb s p:=by
 intro q h cs hq hrom hb hX hp
 obtain ⟨Av,c,rfl⟩:=hp.shape
 refine snd_go wf Try.func43 rfl rfl (n:=200) rfl (by kernel_rfl) rfl ?_
 intro a hn hg
 have hr:Try.f43.results.toList=[.tmp 6]:=rfl
 have g0:=hg 0
 have g1:=hg 1
 have g2:=hg 2
 clear hg
 simp only [List.getElem?_cons_zero,List.getElem?_cons_succ] at g0 g1 g2
 have hP:=own_new hb 52 [.string p.d,.string p.t,.slice Av p.l.length c]
 have hx0:=Ext.new h (CObj.cells ⟨[.string p.d,.string p.t,.slice Av p.l.length c],52,0,0,false⟩)
 have hX0:=own_ext hx0 hX
 unfold wR at hX0
 have hst:=stores_own hX0 (o:=2) (vs:=[.int .i64 (s - 1)]) (c1:=[.slice Gv G.length gc,.slice Iv items.length ic,.int .i64 (s - 1)]) rfl rfl (by simp)
 have hX1:=own_put_same hX0 [.slice Gv G.length gc,.slice Iv items.length ic,.int .i64 (s - 1)]
 have hlt:decide (s - 1<0)=true:=decide_eq_true (by omega)
 simp -dsimp only [go_sem,g0,g1,g2,load_own hX0,wrap_pred hs1 (Int.le_trans hs (by decide)),hst,load_own hX1,hlt,hr]
 refine ⟨s - 1,[],(hx0.toS (S:=Only xb)).put (.inr rfl) _,hX1,WaysAt.nil,.inr ⟨by omega,?_,fun _=>rfl,Nat.zero_le _,fun w hw=>by simp at hw⟩⟩
 unfold lowW
 split<;>omega
set_option maxHeartbeats 16000000 in
set_option maxRecDepth 10000 in
theorem walk_pos {gb go ib io:Nat} {gcss:Nat→List Value} (R:RoRules r G Gv gc gb go gcss) (RI:RoItems r items Iv ic ib io) (hnm:∀(i:Nat) (x:Rule),G[i]? = some x→named (nms G) x.body) (hfw:∀(i:Nat) (x:Rule),G[i]? = some x→Few x.body)
  {s:Int} (hs:1≤s) (hs2:s≤50000) (ihp:∀z,-100000000000≤z→z≤s - 1→∀p,named (nms G) p→Few p→PartW r G items Gv Iv gc ic xb z p) (ihr:RowW r G items Gv Iv gc ic xb (s - 1)) (iha:∀p,named (nms G) p→Few p→AgainW r G items Gv Iv gc ic xb (s - 1) p) {p:Part} (hnp:named (nms G) p) (hfp:Few p):PartW r G items Gv Iv gc ic xb s p:=by
 intro q h cs hq hrom hb hX hp
 obtain ⟨d,t,l⟩:=p
 have hGl:(nms G).length=G.length:=by simp [nms]
 have hlb:l.length≤100000:=by
  cases hfp with
  | mk _ _ _ h1 _=>exact h1
 have hfk:∀(i:Nat) (p:Part),l[i]? = some p→Few p:=by
  cases hfp with
  | mk _ _ _ _ h1=>exact h1
 have hnk:∀(i:Nat) (p:Part),l[i]? = some p→named (nms G) p:=namedL_get hnp.2.2
 have hs10:0≤s - 1:=by omega
 have ih:=ihp (s - 1) (by omega) (Int.le_refl _)
 cases hp with
 | mk _ _ _ Av c b o css hc hlb2 hA hat hk hsp =>
 refine snd_go wf Try.func43 rfl rfl (n:=200) rfl (by kernel_rfl) rfl ?_
 intro a hn hg
 have hr:Try.f43.results.toList=[.tmp 6]:=rfl
 have g0:=hg 0
 have g1:=hg 1
 have g2:=hg 2
 clear hg
 simp only [List.getElem?_cons_zero,List.getElem?_cons_succ] at g0 g1 g2
 have hP:=own_new hb 52 [.string d,.string t,.slice Av l.length c]
 have hx0:=Ext.new h (CObj.cells ⟨[.string d,.string t,.slice Av l.length c],52,0,0,false⟩)
 have hX0:=own_ext hx0 hX
 unfold wR at hX0
 have hst:=stores_own hX0 (o:=2) (vs:=[.int .i64 (s - 1)]) (c1:=[.slice Gv G.length gc,.slice Iv items.length ic,.int .i64 (s - 1)]) rfl rfl (by simp)
 have hX1:=own_put_same hX0 [.slice Gv G.length gc,.slice Iv items.length ic,.int .i64 (s - 1)]
 have hxn:h.next≠xb:=Nat.ne_of_gt hX.2.1
 have hP1:=own_put hP hxn (.cells ⟨[.slice Gv G.length gc,.slice Iv items.length ic,.int .i64 (s - 1)],81,0,0,false⟩)
 have hx1:=(hx0.toS (S:=Only xb)).put (b:=xb) (.inr rfl) (.cells ⟨[.slice Gv G.length gc,.slice Iv items.length ic,.int .i64 (s - 1)],81,0,0,false⟩)
 have hlt0:decide (s - 1<0)=false:=decide_eq_false (by omega)
 simp -dsimp only [go_sem,g0,g1,g2,load_own hX0,wrap_pred (by omega : -1000000000000≤s) (by omega:s≤1000000),hst,load_own hX1,hlt0]
 generalize ((h.newH (CObj.cells ⟨[.string d,.string t,.slice Av l.length c],52,0,0,false⟩)).put xb (.cells ⟨[.slice Gv G.length gc,.slice Iv items.length ic,.int .i64 (s - 1)],81,0,0,false⟩))=h2 at hX1 hP1 hx1 ⊢
 have hrom2:h2.rom=r:=ext_rom hx1 hrom
 have hb2:h2.base≤h2.next:=ext_bn hx1 hb
 have hXp:h2.own xb 81 (wR G items Gv Iv gc ic (s - 1)):=hX1
 have hxb2:xb<h2.next:=hXp.2.1
 clear hst hX0 hx0 hP
 have hix0:l≠[]→indexAddr' Try.prog 50 (.slice Av l.length c) (.int .i64 0)=some (.pointer (some ⟨b,o,none⟩)):=by
  intro hl
  rw [hA hl]
  have:=ia50 (b:=b) (o:=o) (c:=c) (n:=l.length) (i:=0) (List.length_pos_iff.2 hl)
  simpa using this
 have alone:∀hh:Hp,ExtS (Only xb) h hh→hh.own xb 81 (wR G items Gv Iv gc ic (s - 1))→(∃k,runW G items k (.part ⟨d,t,l⟩ q)=some ([([],q)],1,0))→WalkP G items Gv Iv gc ic xb (.part ⟨d,t,l⟩ q) s (lowW s) h (.slice (some ⟨hh.next,0,none⟩) 1 1) (hh.newH (CObj.cells ⟨[.slice none 0 0,.int .i64 (q:Int)],85,0,0,false⟩)):=by
  intro hh xh oX hrun
  obtain ⟨k,hrun⟩:=hrun
  have hW:=own_new (ext_bn xh hb) 85 [.slice none 0 0,.int .i64 (q:Int)]
  have xw:=Ext.new hh (CObj.cells ⟨[.slice none 0 0,.int .i64 (q:Int)],85,0,0,false⟩)
  exact ⟨s - 1,[([],q)],xh.trans xw.toS,own_ext xw oX,ways_new mkR hW xh.next KidsAt.nil,.inl ⟨k,_,hrun,by simp,hs10,rfl⟩⟩
 by_cases c1:d.data.toList=[105,115]
 ·have k1:decide (d.data.toList=[105,115])=true:=decide_eq_true c1
  simp -dsimp only [go_sem,g0,g1,g2,load_own hP1,k1]
  refine Dw_text (n:=200) [[],[],[1],[1,2],[1,2,3],[1,2,3,4],[0,1,2,3,4,5],[0,1,2,3,4,5,6],[0,1,2,3,4,5,6,7],[0,1,2,3,4,5,6,7,8],[0,1,2,3,4,5,6,7,8,9],[0,1,2,3,4,5,6,7,8,9,10],[0,1,2,3,4,5,6,7,8,9,10,11],[0,1,2,3,4,5,6,7,8,9,10,11,12],[0,1,2,3,4,5,6,7,8,9,10,11,12,13],[0,1,2,3,4,5,6,7,8,9,10,11,12,13,14],[0,1,2,3,4,5,6,7,8,9,10,11],[0,1,2,3,4,5,6,7,8,9,10,11,12,13,14,15,16],[0,1,2,3,4,5,6,7,8,9,10,11,12,13,14,15,16,17],[0,1,2,3,4,5,6,7,8,9,10,11],[0,1,2,3,4,5,6,7,8,9,10,11,19],[0,1,2,3,4,5,6,7,8,9,10,11,12,13,14,15,16,17,18,19,20],[0,1,2,3,4,5,6,7,8,9,10,11,12,13,14,15,16,17,18,19,20,21],[0,1,2,3,4,5,6,7,8,9,10,11,12,13,14,15,16,17,18,19,20,21,22]] (by simp -dsimp only [go_sem,hn]) (by kernel_rfl) ?_
  have hcost:=(oneW_cost (items:=items) (w:=(some t)) (q:=q)).1
  have hcx:(oneW items (some t) q).2.2=0:=by unfold oneW;split<;>(try split)<;>rfl
  by_cases hlt:q<items.length
  rotate_left
  ·have k0:decide ((q:Int)<(items.length:Int))=false:=decide_eq_false (by omega)
   simp -dsimp only [go_sem,undef',g0,g1,g2,load_own hX1,load_own hP1,sameN_sliceA RI.hs,k0,hr]
   refine ⟨s - 1,[],hx1,hXp,WaysAt.nil,.inl ⟨1,_,runW_one c1,?_,hs10,?_⟩⟩
   ·rw [hcost,hcx];simp
   ·unfold oneW;rw [List.getElem?_eq_none (by omega)]
  have k0:decide ((q:Int)<(items.length:Int))=true:=decide_eq_true (by omega)
  have hps:items[q]? = some items[q]:=List.getElem?_eq_getElem hlt
  have hIv:=RI.hA (ne_nil hlt)
  subst hIv
  have hld:h2.load ⟨ib,io+q,none⟩=some (.string items[q]):=by
   have:=load_ro hrom2 (RI.hat q _ hps) (j:=0) (v:=.string items[q]) rfl
   simpa using this
  have hw:=wrap64_succ hlt (Nat.le_trans RI.hb (by decide))
  have hrow:=own_new hb2 31 [.string ⟨#[105,116,101,109]⟩,.string items[q],.slice none 0 0]
  have hxr:=Ext.new h2 (CObj.cells ⟨[.string ⟨#[105,116,101,109]⟩,.string items[q],.slice none 0 0],31,0,0,false⟩)
  have hXr:=own_ext hxr hXp
  have K1:KidsAt _ (fun x=>OldB h x∨x=h2.next+1) (OldF h) [itemT items[q]] (.slice (some ⟨h2.next,0,none⟩) 1 1):=kids_new hrow (fun c=>c.elim (fun c=>by have:=hx1.next;have:h2.next<h.next:=c;omega) (fun c=>by omega)) (fun c=>c.1 rfl) KidsAt.nil
  have fin:testB (some t) items[q]=true→WalkP G items Gv (some ⟨ib,io,none⟩) gc ic xb (.part ⟨d,t,l⟩ q) s (lowW s) h (.slice (some ⟨h2.next+1,0,none⟩) 1 1) ((h2.newH (CObj.cells ⟨[.string ⟨#[105,116,101,109]⟩,.string items[q],.slice none 0 0],31,0,0,false⟩)).newH (CObj.cells ⟨[.slice (some ⟨h2.next,0,none⟩) 1 1,.int .i64 ((q+1:Nat):Int)],85,0,0,false⟩)):=by
   intro ht
   have hbr:=ext_bn (hxr.toS (S:=Only xb)) hb2
   have hW:=own_new hbr 85 [.slice (some ⟨h2.next,0,none⟩) 1 1,.int .i64 ((q+1:Nat):Int)]
   have xw:=Ext.new (h2.newH (CObj.cells ⟨[.string ⟨#[105,116,101,109]⟩,.string items[q],.slice none 0 0],31,0,0,false⟩)) (CObj.cells ⟨[.slice (some ⟨h2.next,0,none⟩) 1 1,.int .i64 ((q+1:Nat):Int)],85,0,0,false⟩)
   have hres:(oneW items (some t) q).1=[([itemT items[q]],q+1)]:=by unfold oneW;rw [hps];simp only [ht,if_true]
   have hways:=ways_new (B:=OldB h) (F:=OldF h) (n0:=h.next) (f0:=h.nfam) (ks:=[itemT items[q]]) mkR hW (by simp only [next_newH];have:=hx1.next;omega) (K1.keep (keepsE xw).any)
   refine ⟨s - 1,[([itemT items[q]],q+1)],hx1.trans (hxr.trans xw).toS,own_ext xw hXr,hways,.inl ⟨1,_,runW_one c1,?_,hs10,hres.symm⟩⟩
   rw [hcost,hcx];simp
  have kany:decide (d.data.toList=[97,110,121])=false:=decide_eq_false (by rw [c1];decide)
  by_cases hte:items[q].data.toList=t.data.toList
  ·simp -dsimp only [go_sem,undef',g0,g1,g2,load_own hX1,load_own hP1,sameN_sliceA RI.hs,k0,kany,ia25 hlt,hld,decide_eq_true hte,hw,bs29 1 (by decide),bs82 1 (by decide),repeatN,hr]
   exact fin (decide_eq_true hte)
  ·simp -dsimp only [go_sem,undef',g0,g1,g2,load_own hX1,load_own hP1,sameN_sliceA RI.hs,k0,kany,ia25 hlt,hld,decide_eq_false hte,hr]
   refine ⟨s - 1,[],hx1,hXp,WaysAt.nil,.inl ⟨1,_,runW_one c1,?_,hs10,?_⟩⟩
   ·rw [hcost,hcx];simp
   ·have:testB (some t) items[q]=false:=decide_eq_false hte
    unfold oneW;rw [hps];simp only [this,if_false,Bool.false_eq_true]
 have k1:decide (d.data.toList=[105,115])=false:=decide_eq_false c1
 by_cases c2:d.data.toList=[97,110,121]
 ·have k2:decide (d.data.toList=[97,110,121])=true:=decide_eq_true c2
  simp -dsimp only [go_sem,g0,g1,g2,load_own hP1,k1,k2]
  refine Dw_text (n:=200) [[],[],[1],[1,2],[1,2,3],[1,2,3,4],[0,1,2,3,4,5],[0,1,2,3,4,5,6],[0,1,2,3,4,5,6,7],[0,1,2,3,4,5,6,7,8],[0,1,2,3,4,5,6,7,8,9],[0,1,2,3,4,5,6,7,8,9,10],[0,1,2,3,4,5,6,7,8,9,10,11],[0,1,2,3,4,5,6,7,8,9,10,11,12],[0,1,2,3,4,5,6,7,8,9,10,11,12,13],[0,1,2,3,4,5,6,7,8,9,10,11,12,13,14],[0,1,2,3,4,5,6,7,8,9,10,11],[0,1,2,3,4,5,6,7,8,9,10,11,12,13,14,15,16],[0,1,2,3,4,5,6,7,8,9,10,11,12,13,14,15,16,17],[0,1,2,3,4,5,6,7,8,9,10,11],[0,1,2,3,4,5,6,7,8,9,10,11,19],[0,1,2,3,4,5,6,7,8,9,10,11,12,13,14,15,16,17,18,19,20],[0,1,2,3,4,5,6,7,8,9,10,11,12,13,14,15,16,17,18,19,20,21],[0,1,2,3,4,5,6,7,8,9,10,11,12,13,14,15,16,17,18,19,20,21,22]] (by simp -dsimp only [go_sem,hn]) (by kernel_rfl) ?_
  have hcost:=(oneW_cost (items:=items) (w:=none) (q:=q)).1
  have hcx:(oneW items none q).2.2=0:=by unfold oneW;split<;>(try split)<;>rfl
  by_cases hlt:q<items.length
  rotate_left
  ·have k0:decide ((q:Int)<(items.length:Int))=false:=decide_eq_false (by omega)
   simp -dsimp only [go_sem,undef',g0,g1,g2,load_own hX1,load_own hP1,sameN_sliceA RI.hs,k0,hr]
   refine ⟨s - 1,[],hx1,hXp,WaysAt.nil,.inl ⟨1,_,runW_any c2,?_,hs10,?_⟩⟩
   ·rw [hcost,hcx];simp
   ·unfold oneW;rw [List.getElem?_eq_none (by omega)]
  have k0:decide ((q:Int)<(items.length:Int))=true:=decide_eq_true (by omega)
  have hps:items[q]? = some items[q]:=List.getElem?_eq_getElem hlt
  have hIv:=RI.hA (ne_nil hlt)
  subst hIv
  have hld:h2.load ⟨ib,io+q,none⟩=some (.string items[q]):=by
   have:=load_ro hrom2 (RI.hat q _ hps) (j:=0) (v:=.string items[q]) rfl
   simpa using this
  have hw:=wrap64_succ hlt (Nat.le_trans RI.hb (by decide))
  have hrow:=own_new hb2 31 [.string ⟨#[105,116,101,109]⟩,.string items[q],.slice none 0 0]
  have hxr:=Ext.new h2 (CObj.cells ⟨[.string ⟨#[105,116,101,109]⟩,.string items[q],.slice none 0 0],31,0,0,false⟩)
  have hXr:=own_ext hxr hXp
  have K1:KidsAt _ (fun x=>OldB h x∨x=h2.next+1) (OldF h) [itemT items[q]] (.slice (some ⟨h2.next,0,none⟩) 1 1):=kids_new hrow (fun c=>c.elim (fun c=>by have:=hx1.next;have:h2.next<h.next:=c;omega) (fun c=>by omega)) (fun c=>c.1 rfl) KidsAt.nil
  have fin:testB none items[q]=true→WalkP G items Gv (some ⟨ib,io,none⟩) gc ic xb (.part ⟨d,t,l⟩ q) s (lowW s) h (.slice (some ⟨h2.next+1,0,none⟩) 1 1) ((h2.newH (CObj.cells ⟨[.string ⟨#[105,116,101,109]⟩,.string items[q],.slice none 0 0],31,0,0,false⟩)).newH (CObj.cells ⟨[.slice (some ⟨h2.next,0,none⟩) 1 1,.int .i64 ((q+1:Nat):Int)],85,0,0,false⟩)):=by
   intro ht
   have hbr:=ext_bn (hxr.toS (S:=Only xb)) hb2
   have hW:=own_new hbr 85 [.slice (some ⟨h2.next,0,none⟩) 1 1,.int .i64 ((q+1:Nat):Int)]
   have xw:=Ext.new (h2.newH (CObj.cells ⟨[.string ⟨#[105,116,101,109]⟩,.string items[q],.slice none 0 0],31,0,0,false⟩)) (CObj.cells ⟨[.slice (some ⟨h2.next,0,none⟩) 1 1,.int .i64 ((q+1:Nat):Int)],85,0,0,false⟩)
   have hres:(oneW items none q).1=[([itemT items[q]],q+1)]:=by unfold oneW;rw [hps];simp only [ht,if_true]
   have hways:=ways_new (B:=OldB h) (F:=OldF h) (n0:=h.next) (f0:=h.nfam) (ks:=[itemT items[q]]) mkR hW (by simp only [next_newH];have:=hx1.next;omega) (K1.keep (keepsE xw).any)
   refine ⟨s - 1,[([itemT items[q]],q+1)],hx1.trans (hxr.trans xw).toS,own_ext xw hXr,hways,.inl ⟨1,_,runW_any c2,?_,hs10,hres.symm⟩⟩
   rw [hcost,hcx];simp
  simp -dsimp only [go_sem,undef',g0,g1,g2,load_own hX1,load_own hP1,sameN_sliceA RI.hs,k0,k1,k2,ia25 hlt,hld,hw,bs29 1 (by decide),bs82 1 (by decide),repeatN,hr]
  exact fin rfl
 have k2:decide (d.data.toList=[97,110,121])=false:=decide_eq_false c2
 by_cases c3:d.data.toList=[114,117,108,101]
 ·have k3:decide (d.data.toList=[114,117,108,101])=true:=decide_eq_true c3
  have hidx:idxOf (nms G) t<(nms G).length:=hnp.1 c3
  have hfi:findB t (nms G) 0=((idxOf (nms G) t:Nat):Int):=by rw [findB_idx,if_pos hidx,Nat.zero_add]
  rw [hGl] at hidx
  obtain ⟨_,h5,hs5,rfl,hx5⟩:=find_c R t h2 hrom2 hb2
  rw [hfi] at hs5
  have hgi:G[idxOf (nms G) t]? = some G[idxOf (nms G) t]:=List.getElem?_eq_getElem hidx
  have hbo:bodyOf G t=G[idxOf (nms G) t].body:=by unfold bodyOf;rw [hgi]
  obtain ⟨Av1,c1',hcs⟩:=(R.hk _ _ hgi).shape
  have hat':=R.hat _ _ hgi
  have hkid:=R.hk _ _ hgi
  rw [hcs] at hat' hkid
  have hat2:=roAt_tail hat'
  have hGv:=R.hA (ne_nil hidx)
  subst hGv
  have hx15:=hx1.trans (hx5.toS (S:=Only xb))
  obtain ⟨v6,h6,hs6,s6,ws,hx6,hX6,hW6,hcase⟩:=ih _ (hnm _ _ hgi) (hfw _ _ hgi) q h5 _ hq (ext_rom hx15 hrom) (ext_bn hx15 hb) (own_ext hx5 hXp) hkid
  obtain ⟨A6,hv6,hsp6⟩:=hW6.slice
  have hP6:=own_extS (hx5.toS.trans hx6) hP1 hxn
  simp -dsimp only [go_sem,g0,g1,g2,load_own hP1,k1,k2,k3]
  refine Dw_text (n:=200) [[],[],[1],[1,2],[1,2,3],[1,2,3,4],[],[6],[6,7],[6,7,8],[],[10],[6,7,8,9,10,11],[1,2,3,4,5,6,7,8,9,10,11,12],[1,2,3,4,5,6,7,8,9,10,11,12,13],[1,2,3,4,5,6,7,8,9,10,11,12,13,14],[],[0,1,2,3,4,5,6,7,8,9,10,11,12,13,14,15,16],[0,1,2,3,4,5,6,7,8,9,10,11,12,13,14,15,16,17]] (by simp -dsimp only [go_sem,hn]) (by kernel_rfl) ?_
  simp -dsimp only [go_sem,g0,g1,g2,load_own hP1,load_own hX1,loads_own hX1,load_own (own_ext hx5 hX1),sameN_sliceA R.hs]
  refine ⟨_,h5,hs5,?_⟩
  simp -dsimp only [go_sem,g0,g1,g2,ia22 hidx,loads_ro (n:=3) (ext_rom hx15 hrom) hat2 rfl,load_own hX1,load_own (own_ext hx5 hX1),loads_ro (n:=3) hrom2 hat2 rfl,sameN_sliceA hkid.same,sameN_sliceA R.hs]
  refine ⟨_,h6,hs6,?_⟩
  rw [hv6]
  simp -dsimp only [go_sem,sameN_sliceA hsp6]
  have hx16:=hx15.trans hx6
  have hwl:ws.length≤500000:=by
   have:=(sub_bounds (t:=.part G[idxOf (nms G) t].body q) (by simp [slackW]) (by exact ⟨hq,rfl⟩) hs10 (by omega) hcase).1
   omega
  refine walk_map_rule hb hx16 hX6 hX.2.1 hP6 (WR.pre hx15 hW6) hwl (by simp -dsimp only [go_sem,hn]) (by simp -dsimp only [go_sem]) (by simp -dsimp only [go_sem,hv6]) (by simp -dsimp only [go_sem]) (by simp -dsimp only [go_sem]) (fun a1 h1 vo r_n hx7 hX7 hO7 r8 => ?_)
  simp -dsimp only [go_sem,r8,hr]
  refine ⟨s6,_,hx7,hX7,hO7,?_⟩
  rcases hcase with ⟨k,o6,hrun,hss,hsp6,rfl⟩|⟨hneg,hlw,hd1,hd2,hd3⟩
  ·rw [←hbo] at hrun
   have hrun':=mapW_some (f:=ruleW t) hrun
   rw [←runW_rule (d:=d) (l:=l) c3] at hrun'
   refine .inl ⟨_,_,hrun',?_,hsp6,rfl⟩
   simp only [ruleW]
   omega
  ·refine .inr ⟨hneg,lowW_step hs hlw,fun c=>by omega,by rw [List.length_map];omega,?_⟩
   exact (okH_map (ruleT t) (fun l h1 h2=>few_of h1 h2) (by omega) hd3).mono (by omega)
 have k3:decide (d.data.toList=[114,117,108,101])=false:=decide_eq_false c3
 by_cases c4:d.data.toList=[115,101,113]
 ·have k4:decide (d.data.toList=[115,101,113])=true:=decide_eq_true c4
  obtain ⟨v6,h6,hs6,hW⟩:=ihr l Av c b o css q h2 (fun p hp=>by
   obtain ⟨i,hi⟩:=List.getElem?_of_mem hp
   exact ⟨hnk i p hi,hfk i p hi⟩) hlb hc hsp hA hat hk hq hrom2 hb2 hXp
  simp -dsimp only [go_sem,g0,g1,g2,load_own hP1,k1,k2,k3,k4]
  refine ⟨_,h6,hs6,?_⟩
  simp -dsimp only [go_sem,hr]
  exact hW.plus hx1 hs (fun k o e=>⟨k+1,by rw [runW_sq c4,e];rfl⟩)
 have k4:decide (d.data.toList=[115,101,113])=false:=decide_eq_false c4
 by_cases c5:d.data.toList=[111,114]
 ·have k5:decide (d.data.toList=[111,114])=true:=decide_eq_true c5
  simp -dsimp only [go_sem,g0,g1,g2,load_own hP1,k1,k2,k3,k4,k5]
  refine walk_or (fun z hz hz2 i p hp=>ihp z hz hz2 p (hnk i p hp) (hfk i p hp)) hlb hA hat hk (by simp -dsimp only [go_sem,hn]) hrom2 hb2 hXp hP1 hxn hs10 (by omega) hq (by simp -dsimp only [go_sem,g0]) (by simp -dsimp only [go_sem,g2]) (by simp -dsimp only [go_sem]) (by simp -dsimp only [go_sem]) (by simp -dsimp only [go_sem]) (fun a1 h1 wo vo z r_n hx7 hX7 hO7 hL r10 => ?_)
  simp -dsimp only [go_sem,r10,hr]
  refine ⟨z,wo,hx1.trans hx7,hX7,WR.pre hx1 hO7,?_⟩
  rcases hL.done with ⟨k,o5,hrun,e1,e2,rfl⟩|⟨e1,e2,e3,e4⟩
  ·have hrun':=mapW_some (f:=plusW) hrun
   rw [←runW_or (d:=d) (t:=t) c5] at hrun'
   refine .inl ⟨_,_,hrun',?_,e2,rfl⟩
   simp only [plusW]
   omega
  ·refine .inr ⟨e1,?_,fun c=>by omega,by omega,e4.mono (by omega)⟩
   unfold lowW
   rw [if_neg (by omega)]
   omega
 have k5:decide (d.data.toList=[111,114])=false:=decide_eq_false c5
 have one1:oneKid d→∃x,l=[x]∧named (nms G) x∧Few x∧RoPart r x (css 0)∧roAt r b o (css 0):=by
  intro ho
  have hl1:l.length=1:=hnp.2.1 ho
  match l,hl1,hnk,hfk,hk,hat with
  | [x],_,hnk,hfk,hk,hat=>exact ⟨x,rfl,hnk 0 x rfl,hfk 0 x rfl,hk 0 x rfl,by have:=hat 0 x rfl;simpa using this⟩
 by_cases c6:d.data.toList=[109,97,110,121]
 ·have k6:decide (d.data.toList=[109,97,110,121])=true:=decide_eq_true c6
  obtain ⟨x,rfl,hnx,hfx,hkx,hatx⟩:=one1 (.inl c6)
  have hAv:=hA (by simp)
  subst hAv
  obtain ⟨Av1,c1',hcs⟩:=hkx.shape
  rw [hcs] at hkx hatx
  have hix:indexAddr' Try.prog 50 (.slice (some ⟨b,o,none⟩) 1 c) (.int .i64 0)=some (.pointer (some ⟨b,o,none⟩)):=hix0 (by simp)
  obtain ⟨v6,h6,hs6,s6,ws,hx6,hX6,hW6,hcase⟩:=iha x hnx hfx q h2 _ hq hrom2 hb2 hXp hkx
  obtain ⟨A6,hv6,hsp6⟩:=hW6.slice
  have hP6:=own_extS hx6 hP1 hxn
  simp -dsimp only [go_sem,g0,g1,g2,load_own hP1,k1,k2,k3,k4,k5,k6,hix,loads_ro (n:=3) hrom2 hatx rfl]
  refine ⟨_,h6,hs6,?_⟩
  have hwl:ws.length≤500000:=by
   have:=(sub_bounds (t:=.again x q) (by simp [slackW]) (by exact ⟨hq,rfl⟩) hs10 (by omega) hcase).1
   omega
  refine walk_map_many hb (hx1.trans hx6) hX6 hX.2.1 hP6 (WR.pre hx1 hW6) hwl (by simp -dsimp only [go_sem,hn]) (by simp -dsimp only [go_sem]) (by simp -dsimp only [go_sem]) (by simp -dsimp only [go_sem]) (by simp -dsimp only [go_sem]) (fun a1 h1 vo r_n hx7 hX7 hO7 r8 => ?_)
  simp -dsimp only [go_sem,r8,hr]
  refine ⟨s6,_,hx7,hX7,hO7,?_⟩
  rcases hcase with ⟨k,o6,hrun,hss,hsp6,rfl⟩|⟨hneg,hlw,hd1,hd2,hd3⟩
  ·have hrun':=mapW_some (f:=manyW) hrun
   rw [←runW_mn (d:=d) (t:=t) c6] at hrun'
   refine .inl ⟨_,_,hrun',?_,hsp6,rfl⟩
   simp only [manyW]
   omega
  ·refine .inr ⟨hneg,lowW_step hs hlw,fun c=>by omega,by rw [List.length_map];omega,?_⟩
   exact (okH_map manyT (fun l h1 h2=>few_of h1 h2) (by omega) hd3).mono (by omega)
 have k6:decide (d.data.toList=[109,97,110,121])=false:=decide_eq_false c6
 by_cases c7:d.data.toList=[111,112,116]
 ·have k7:decide (d.data.toList=[111,112,116])=true:=decide_eq_true c7
  obtain ⟨x,rfl,hnx,hfx,hkx,hatx⟩:=one1 (.inr (.inl c7))
  have hAv:=hA (by simp)
  subst hAv
  obtain ⟨Av1,c1',hcs⟩:=hkx.shape
  rw [hcs] at hkx hatx
  have hix:indexAddr' Try.prog 50 (.slice (some ⟨b,o,none⟩) 1 c) (.int .i64 0)=some (.pointer (some ⟨b,o,none⟩)):=hix0 (by simp)
  obtain ⟨v6,h6,hs6,s6,ws,hx6,hX6,hW6,hcase⟩:=ih x hnx hfx q h2 _ hq hrom2 hb2 hXp hkx
  have hwl:ws.length≤500000:=by
   have:=(sub_bounds (t:=.part x q) (by simp [slackW]) (by exact ⟨hq,rfl⟩) hs10 (by omega) hcase).1
   omega
  have hx16:=hx1.trans hx6
  have hb6:h6.base≤h6.next:=ext_bn hx16 hb
  have hWn:=own_new hb6 85 (encR (.slice none 0 0) q)
  have xw:=Ext.new h6 (CObj.cells { c:=encR (.slice none 0 0) q,e:=85,fam:=0,base:=0,grown:=false })
  have hx17:=hx16.trans xw.toS
  obtain ⟨v',h7,a7,hO7,hext7,hkp7,hoth7,_,_,_⟩:=ways_one apR mkR ((WR.pre hx1 hW6).ext xw) hWn KidsAt.nil (ext_bn hx17 hb) hx17.next hx17.nfam (by omega)
  have hx7:=hext7 (Only xb) h hx17 (Nat.le_refl _) (Nat.le_refl _)
  unfold encR at a7
  simp -dsimp only [go_sem,g0,g1,g2,load_own hP1,k1,k2,k3,k4,k5,k6,k7,hix,loads_ro (n:=3) hrom2 hatx rfl]
  refine ⟨_,h6,hs6,?_⟩
  simp -dsimp only [go_sem,g2,bs82 1 (by decide),repeatN,builtin',a7,hr]
  refine ⟨s6,_,hx7,hoth7 _ _ _ (by decide) (own_ext xw hX6),hO7,?_⟩
  rcases hcase with ⟨k,o6,hrun,hss,hsp6,rfl⟩|⟨hneg,hlw,hd1,hd2,hd3⟩
  ·have hrun':=mapW_some (f:=optW q) hrun
   rw [←runW_opt (d:=d) (t:=t) c7] at hrun'
   refine .inl ⟨_,_,hrun',?_,hsp6,rfl⟩
   simp only [optW]
   omega
  ·refine .inr ⟨hneg,lowW_step hs hlw,fun c=>by omega,?_,okH_app (hd3.mono (by omega)) (okH_one hq)⟩
   rw [List.length_append]
   simp only [List.length_cons,List.length_nil]
   omega
 have k7:decide (d.data.toList=[111,112,116])=false:=decide_eq_false c7
 by_cases c8:d.data.toList=[110,111,116]
 ·have k8:decide (d.data.toList=[110,111,116])=true:=decide_eq_true c8
  obtain ⟨x,rfl,hnx,hfx,hkx,hatx⟩:=one1 (.inr (.inr c8))
  have hAv:=hA (by simp)
  subst hAv
  obtain ⟨Av1,c1',hcs⟩:=hkx.shape
  rw [hcs] at hkx hatx
  have hix:indexAddr' Try.prog 50 (.slice (some ⟨b,o,none⟩) 1 c) (.int .i64 0)=some (.pointer (some ⟨b,o,none⟩)):=hix0 (by simp)
  obtain ⟨v6,h6,hs6,s6,ws,hx6,hX6,hW6,hcase⟩:=ih x hnx hfx q h2 _ hq hrom2 hb2 hXp hkx
  obtain ⟨A6,hv6,hsp6⟩:=hW6.slice
  subst hv6
  have hx16:=hx1.trans hx6
  have hb6:h6.base≤h6.next:=ext_bn hx16 hb
  simp -dsimp only [go_sem,g0,g1,g2,load_own hP1,k1,k2,k3,k4,k5,k6,k7,k8,hix,loads_ro (n:=3) hrom2 hatx rfl]
  refine ⟨_,h6,hs6,?_⟩
  by_cases hwz:0<ws.length
  ·have kw:decide ((0:Int)<(ws.length:Int))=true:=decide_eq_true (by omega)
   simp -dsimp only [go_sem,kw,hr]
   refine ⟨s6,[],hx16,hX6,WaysAt.nil,?_⟩
   rcases hcase with ⟨k,o6,hrun,hss,hsp6,rfl⟩|⟨hneg,hlw,hd1,hd2,hd3⟩
   ·have hrun':=mapW_some (f:=notW q) hrun
    rw [←runW_not (d:=d) (t:=t) c8] at hrun'
    refine .inl ⟨_,_,hrun',?_,hsp6,?_⟩
    ·simp only [notW];omega
    ·simp only [notW,if_pos hwz]
   ·exact .inr ⟨hneg,lowW_step hs hlw,fun c=>by omega,Nat.zero_le _,fun w hw=>by simp at hw⟩
  ·have kw:decide ((0:Int)<(ws.length:Int))=false:=decide_eq_false (by omega)
   have hW:=own_new hb6 85 [.slice none 0 0,.int .i64 (q:Int)]
   have xw:=Ext.new h6 (CObj.cells ⟨[.slice none 0 0,.int .i64 (q:Int)],85,0,0,false⟩)
   simp -dsimp only [go_sem,g2,kw,bs82 1 (by decide),repeatN,hr]
   refine ⟨s6,[([],q)],hx16.trans xw.toS,own_ext xw hX6,ways_new mkR hW hx16.next KidsAt.nil,?_⟩
   rcases hcase with ⟨k,o6,hrun,hss,hsp6,rfl⟩|⟨hneg,hlw,hd1,hd2,hd3⟩
   ·have hrun':=mapW_some (f:=notW q) hrun
    rw [←runW_not (d:=d) (t:=t) c8] at hrun'
    refine .inl ⟨_,_,hrun',?_,hsp6,?_⟩
    ·simp only [notW];omega
    ·simp only [notW,if_neg hwz]
   ·exact .inr ⟨hneg,lowW_step hs hlw,fun c=>by omega,by simp;omega,okH_one hq⟩
 have k8:decide (d.data.toList=[110,111,116])=false:=decide_eq_false c8
 simp -dsimp only [go_sem,g0,g1,g2,load_own hP1,k1,k2,k3,k4,k5,k6,k7,k8,bs82 1 (by decide),repeatN,hr]
 exact alone h2 hx1 hXp ⟨1,runW_else c1 c2 c3 c4 c5 c6 c7 c8⟩
theorem walk_part {gb go ib io:Nat} {gcss:Nat→List Value} (R:RoRules r G Gv gc gb go gcss) (RI:RoItems r items Iv ic ib io) (hnm:∀(i:Nat) (x:Rule),G[i]? = some x→named (nms G) x.body) (hfw:∀(i:Nat) (x:Rule),G[i]? = some x→Few x.body) :
  ∀(n:Nat),n≤50000→(∀p,named (nms G) p→Few p→PartW r G items Gv Iv gc ic xb (n:Int) p)∧RowW r G items Gv Iv gc ic xb (n:Int)∧∀p,named (nms G) p→Few p→AgainW r G items Gv Iv gc ic xb (n:Int) p:=by
 intro n
 induction n using Nat.strongRecOn with
 | _ n ih =>
 intro hn
 have hp:∀p,named (nms G) p→Few p→PartW r G items Gv Iv gc ic xb (n:Int) p:=by
  intro p h1 h2
  by_cases h0:n=0
  ·exact walk_neg (by omega) (by omega)
  ·have e:((n - 1:Nat):Int)=(n:Int) - 1:=by omega
   obtain ⟨i1,i2,i3⟩:=ih (n - 1) (by omega) (by omega)
   refine walk_pos R RI hnm hfw (by omega) (by omega) (fun z z1 z2 p h1 h2 => ?_) (by rw [←e];exact i2) (fun p h1 h2=>by rw [←e];exact i3 p h1 h2) h1 h2
   by_cases hz:z≤0
   ·exact walk_neg hz (by omega)
   ·have e2:((z.toNat:Nat):Int)=z:=Int.toNat_of_nonneg (by omega)
    have:=(ih z.toNat (by omega) (by omega)).1 p h1 h2
    rwa [e2] at this
 have low:∀z:Int,0≤z→z<(n:Int)→RowW r G items Gv Iv gc ic xb z∧∀p,named (nms G) p→Few p→AgainW r G items Gv Iv gc ic xb z p:=by
  intro z h1 h2
  have e2:((z.toNat:Nat):Int)=z:=Int.toNat_of_nonneg h1
  have:=(ih z.toNat (by omega) (by omega)).2
  rwa [e2] at this
 exact ⟨hp,walk_row (by omega) (by omega) hp (fun z h1 h2=>(low z h1 h2).1),fun p h1 h2=>walk_again (by omega) (by omega) (hp p h1 h2) (fun z h3 h4=>(low z h3 h4).2 p h1 h2)⟩
end Go.Ev.G24
end
section
namespace Go.Ev.G24
open Go.RowKit Go.Proofs
variable {r:Ro} {G:List Rule} {items:List ByteArray} {Gv Iv:Option Addr} {gc ic xb:Nat}
def anyS (acc:List Part) (x:Part):Bool:=acc.any fun t=>sameT t x
theorem KidsAt.no {h:Hp} {B F:Nat→Prop} {l:List Part} {v:Value} (k:KidsAt h B F l v):KidsAt h No No l v:=k.more (fun b _ c=>c.elim) (fun f c=>c.elim)
theorem TreeAt.no {h:Hp} {B F:Nat→Prop} {p:Part} {v:List Value} (k:TreeAt h B F p v):TreeAt h No No p v:=k.more (fun b _ c=>c.elim) (fun f c=>c.elim)
set_option maxHeartbeats 4000000 in
set_option maxRecDepth 10000 in
theorem among_c {acc:List Part} {x:Part} {v:Value} {cs:List Value} {h:Hp} (hb:h.base≤h.next) (K:KidsAt h No No acc v) (T:TreeAt h No No x cs) (hf:∀p∈acc,Few p) (hl:acc.length≤1000000) :
  ∃v1 h1,Snd Try.prog 44 [v,.agg cs.toArray] h v1 h1∧v1=.bool (anyS acc x)∧Ext h h1:=by
 obtain ⟨kv,hcs,hkv⟩:=T.kids
 subst hcs
 obtain ⟨Av,c,b,o,f,row,css,rfl,hc,hsp,hA,hat,hk⟩:=K
 obtain ⟨Ax,cx,rfl,hspx⟩:=hkv.slice
 refine snd_go wf Try.func44 rfl rfl (n:=18) rfl (by kernel_rfl) rfl ?_
 intro a hn hg
 have hr:Try.f44.results.toList=[.tmp 4]:=rfl
 have g0:=hg 0
 have g1:=hg 1
 clear hg
 simp only [List.getElem?_cons_zero,List.getElem?_cons_succ] at g0 g1
 have hP:=own_new hb 31 [.string x.d,.string x.t,.slice Ax x.l.length cx]
 have hx0:=Ext.new h (CObj.cells ⟨[.string x.d,.string x.t,.slice Ax x.l.length cx],31,0,0,false⟩)
 simp -dsimp only [go_sem,g0,g1]
 generalize h.newH (CObj.cells ⟨[.string x.d,.string x.t,.slice Ax x.l.length cx],31,0,0,false⟩)=h2 at hP hx0 ⊢
 have hb2:h2.base≤h2.next:=by rw [hx0.base];exact Nat.le_trans hb hx0.next
 refine loop_go (n:=18) (by kernel_rfl) (fun m' a' h'=>∃i:Nat,i≤acc.length∧m'=acc.length - i∧Ext h2 h'∧anyS (acc.drop i) x=anyS acc x ∧
  a'.get 0=.slice Av acc.length c∧a'.get 3=.pointer (some ⟨h.next,0,none⟩)∧a'.get 5=.int .i64 i) ?_ acc.length _ _ (by simp -dsimp only [go_sem,hn]) ⟨0,Nat.zero_le _,rfl,Ext.refl _,rfl,by simp -dsimp only [go_sem,g0],by simp -dsimp only [go_sem],by simp -dsimp only [go_sem];rfl⟩
 rintro m' a' h' hn' ⟨i,hi,rfl,hx,hst,e0,e3,e5⟩
 have hb':h'.base≤h'.next:=by rw [hx.base];exact Nat.le_trans hb2 hx.next
 have hP':=own_ext hx hP
 by_cases hlt:i<acc.length
 ·have hpi:acc[i]? = some acc[i]:=List.getElem?_eq_getElem hlt
  have hi1:decide ((i:Int)<(acc.length:Int))=true:=decide_eq_true (Int.ofNat_lt.2 hlt)
  obtain ⟨hAv,hRow,_,_⟩:=hA (ne_nil hlt)
  subst hAv
  have kp:=keepsE (hx0.trans hx)
  have ld0:h'.loads ⟨b,o+i*3,none⟩ 3=some (css i):=by rw [row_loads (kp.rows _ _ _ hRow (fun c=>c) (fun c=>c)),hat i _ hpi]
  have t0:=(hk i _ hpi).keep kp
  have t1:=T.keep kp
  obtain ⟨kv,hcs,hkv'⟩:=t0.kids
  rw [hcs] at ld0 t0
  obtain ⟨Avk,ck,rfl,hsk⟩:=hkv'.slice
  obtain ⟨_,h4,hs4,rfl,hx4⟩:=same_c (SizeOf.sizeOf acc[i]+1) acc[i] (Nat.lt_succ_self _) (hf _ (List.getElem_mem hlt)) x h' _ _ hb' t0 t1
  unfold anyS at hst
  rw [List.drop_eq_getElem_cons hlt,List.any_cons] at hst
  simp -dsimp only [go_sem,e0,e3,e5,hi1]
  refine Dw_text (n:=18) [[],[],[0,1],[0,1,2],[],[0,1,2,3,4]] (by simp -dsimp only [go_sem,hn']) (by kernel_rfl) ?_
  simp -dsimp only [go_sem,e0,e3,e5,loads_own hP',ia29 hlt,ld0,sameN_sliceA hsk,sameN_sliceA hspx,sameN_sliceA hsp]
  refine ⟨_,h4,hs4,?_⟩
  simp -dsimp only [go_sem]
  cases hsm:sameT acc[i] x with
  | true =>
    rw [hsm] at hst
    simp -dsimp only [go_sem,hr]
    exact ⟨by unfold anyS;rw [←hst];rfl,hx0.trans (hx.trans hx4)⟩
  | false =>
    rw [hsm,Bool.false_or] at hst
    simp -dsimp only [go_sem,e0,e3,e5,wrap64_succ hlt (by omega)]
    exact ⟨acc.length - (i+1),by omega,i+1,hlt,rfl,hx.trans hx4,hst,rfl⟩
 ·have hi0:decide ((i:Int)<(acc.length:Int))=false:=decide_eq_false (by omega)
  unfold anyS at hst
  rw [List.drop_eq_nil_of_le (by omega),List.any_nil] at hst
  simp -dsimp only [go_sem,e0,e3,e5,hi0,hr]
  exact ⟨by unfold anyS;rw [←hst],hx0.trans hx⟩
def collS (N:Nat) (many:Int) (acc:List Part) (w:Way):List Part:=match w.1 with
 | []=>acc
 | x::_=>if w.2=N∧(acc.length:Int)<many∧anyS acc x=false then acc++[x] else acc
def collW (N:Nat) (many:Int) (ws:List Way):List Part:=ws.foldl (collS N many) []
theorem collS_full {N:Nat} {many:Int} {acc:List Part} (h:¬(acc.length:Int)<many):∀ws:List Way,ws.foldl (collS N many) acc=acc
 | []=>rfl
 | w::ws=>by
   have e:collS N many acc w=acc:=by
    unfold collS
    split
    ·rfl
    ·rw [if_neg (fun c=>h c.2.1)]
   rw [List.foldl_cons,e]
   exact collS_full h ws
theorem runW_ruleP {k:Nat} {rule:ByteArray} {q:Nat} {o:OutW} (h:runW G items k (.part (ruleP rule) q)=some o):∀w∈o.1,∃ks,w.1=[ruleT rule ks]:=by
 cases k with
 | zero=>cases h
 | succ k =>
   have hd:(⟨#[114,117,108,101]⟩:ByteArray).data.toList=[114,117,108,101]:=rfl
   unfold ruleP at h
   rw [runW_rule hd,Option.map_eq_some_iff] at h
   obtain ⟨o0,_,rfl⟩:=h
   intro w hw
   simp only [ruleW,List.mem_map] at hw
   obtain ⟨w0,_,rfl⟩:=hw
   exact ⟨w0.1,rfl⟩
def RefWaysP (G:List Rule) (items:List ByteArray) (rule:ByteArray) (many:Int) (M:Nat) (h:Hp) (v:Value) (h1:Hp):Prop:=Ext h h1 ∧
 (((rightG G=true→∃em,Found G em∧withB G em rule=false)∧v=.tuple #[.slice none 0 0,.int .i64 240,.bool true]) ∨
   ((rightG G=true∧∃em,Found G em∧withB G em rule=true)∧(v=.tuple #[.slice none 0 0,.int .i64 0,.bool false] ∨
     ∃k o,runW G items k (.part (ruleP rule) 0)=some o∧o.2.1+o.2.2≤M∧∃v',v=.tuple #[v',.int .i64 0,.bool true]∧KidsAt h1 (OldB h) (OldF h) (collW items.length many o.1) v')))
end Go.Ev.G24
end
section
namespace Go.Ev.G24
open Go.RowKit Go.Proofs
variable {G:List Rule}
theorem iter_add {α:Type} (f:α→α) (a:Nat):∀(b:Nat) (x:α),iter f (a+b) x=iter f b (iter f a x)
 | 0,x=>rfl
 | b+1,x=>by show f (iter f (a+b) x)=f (iter f b (iter f a x));rw [iter_add f a b x]
theorem iter_fix {α:Type} (f:α→α) {x:α} (h:f x=x):∀b:Nat,iter f b x=x
 | 0=>rfl
 | b+1=>by show f (iter f b x)=x;rw [iter_fix f h b,h]
theorem Found.uniq {l:List Rule} {em em':List Bool} (h:Found l em) (h':Found l em'):em=em':=by
 obtain ⟨⟨k,hk⟩,hf⟩:=h
 obtain ⟨⟨k',hk'⟩,hf'⟩:=h'
 rcases Nat.le_total k k' with c|c
 ·obtain ⟨d,rfl⟩:=Nat.le.dest c
  rw [iter_add,←hk,iter_fix _ hf d] at hk'
  exact hk'.symm
 ·obtain ⟨d,rfl⟩:=Nat.le.dest c
  rw [iter_add,←hk',iter_fix _ hf' d] at hk
  exact hk
mutual
theorem partsB_pos (most:Nat):∀(p:Part) (deep:Nat),1≤partsB most deep p
 | ⟨d,t,l⟩,deep=>by
   unfold partsB
   split
   ·omega
   split
   ·omega
   split
   ·omega
   exact Nat.le_trans (Nat.le_refl 1) (partsL_ge most l (deep - 1) 1)
theorem partsL_ge (most:Nat):∀(l:List Part) (deep n:Nat),n≤partsL most deep l n
 | [],deep,n=>by unfold partsL;exact Nat.le_refl _
 | x::l,deep,n=>by
   unfold partsL
   split
   ·exact Nat.le_trans (Nat.le_add_right _ _) (partsL_ge most l deep _)
   ·exact Nat.le_refl _
end
theorem partsL_in (most:Nat):∀(l:List Part) (deep n:Nat),partsL most deep l n≤most→n+l.length≤most∧∀x∈l,partsB most deep x≤most
 | [],deep,n,h=>by unfold partsL at h;exact ⟨by simpa using h,fun x hx=>by simp at hx⟩
 | y::l,deep,n,h=>by
   unfold partsL at h
   split at h
   ·obtain ⟨h1,h2⟩:=partsL_in most l deep _ h
    have:=partsB_pos most y deep
    refine ⟨by rw [List.length_cons];omega,fun x hx => ?_⟩
    rcases List.mem_cons.1 hx with rfl|hx
    ·omega
    ·exact h2 x hx
   ·rename_i c
    exact absurd h c
theorem size_list (s:ByteArray):s.data.toList.length=s.size:=by rw [Array.length_toList];rfl
mutual
theorem parts_fit (most:Nat) (hm:most≤1000):∀(p:Part) (deep:Nat),partsB most deep p≤most→fits p∧Few p
 | ⟨d,t,l⟩,deep,h=>by
   unfold partsB at h
   split at h
   ·omega
   split at h
   ·omega
   rename_i ht
   split at h
   ·omega
   obtain ⟨h1,h2⟩:=partsL_in most l (deep - 1) 1 h
   obtain ⟨h3,h4⟩:=partsL_fit most hm l (deep - 1) h2
   rw [size_list] at ht
   refine ⟨by unfold fits;exact ⟨by omega,h3⟩,.mk d t l (by omega) (fun i p hp=>h4 p (List.mem_of_getElem? hp))⟩
theorem partsL_fit (most:Nat) (hm:most≤1000):∀(l:List Part) (deep:Nat),(∀x∈l,partsB most deep x≤most)→fitsL l∧∀x∈l,Few x
 | [],deep,h=>⟨by unfold fitsL;trivial,fun x hx=>by simp at hx⟩
 | y::l,deep,h=>by
   obtain ⟨h1,h2⟩:=parts_fit most hm y deep (h y (.head _))
   obtain ⟨h3,h4⟩:=partsL_fit most hm l deep (fun x hx=>h x (.tail _ hx))
   refine ⟨by unfold fitsL;exact ⟨h1,h3⟩,fun x hx => ?_⟩
   rcases List.mem_cons.1 hx with rfl|hx
   ·exact h2
   ·exact h4 x hx
end
theorem smallL_ge (most:Nat):∀(l:List Rule) (n z:Nat),smallL most l n=some z→n≤z
 | [],n,z,h=>by unfold smallL at h;injection h with h;omega
 | x::l,n,z,h=>by
   unfold smallL at h
   split at h
   ·split at h
    ·cases h
    ·have:=smallL_ge most l _ z h
     omega
   ·injection h with h;omega
theorem smallL_in (most:Nat):∀(l:List Rule) (n z:Nat),smallL most l n=some z→z≤most→∀x∈l,x.name.data.toList.length≤200∧partsB most 40 x.body≤most
 | [],n,z,_,_=>fun x hx=>by simp at hx
 | y::l,n,z,h,hz=>by
   unfold smallL at h
   split at h
   ·split at h
    ·cases h
    ·rename_i hc
     have h1:=smallL_ge most l _ z h
     have h2:=smallL_in most l _ z h hz
     intro x hx
     rcases List.mem_cons.1 hx with rfl|hx
     ·exact ⟨by omega,by omega⟩
     ·exact h2 x hx
   ·injection h with h;omega
theorem small_fit {most:Nat} (hm:most≤1000) (h:smallB most G=true):G.length≤30∧fitsG G∧∀(i:Nat) (x:Rule),G[i]? = some x→Few x.body:=by
 unfold smallB at h
 split at h
 ·cases h
 ·rename_i z hz
  rw [Bool.and_eq_true] at h
  have h1:=of_decide_eq_true h.1
  have h2:=of_decide_eq_true h.2
  have h3:=smallL_in most G 0 z hz h1
  refine ⟨h2,fun i x hx => ?_,fun i x hx=>(parts_fit most hm x.body 40 (h3 x (List.mem_of_getElem? hx)).2).2⟩
  obtain ⟨a1,a2⟩:=h3 x (List.mem_of_getElem? hx)
  rw [size_list] at a1
  exact ⟨by omega,(parts_fit most hm x.body 40 a2).1⟩
mutual
theorem sameT_refl:∀p:Part,sameT p p=true
 | ⟨d,t,l⟩=>by unfold sameT;simp [sameTs_refl l]
theorem sameTs_refl:∀l:List Part,sameTs l l=true
 | []=>by unfold sameTs;rfl
 | x::l=>by unfold sameTs;rw [sameT_refl x,sameTs_refl l];rfl
end
end Go.Ev.G24
end
