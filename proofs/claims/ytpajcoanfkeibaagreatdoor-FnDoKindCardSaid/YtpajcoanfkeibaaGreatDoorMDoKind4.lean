/- Lemmas (several texts in one). -/
import Derived.Test.YtpajcoanfkeibaaGreatDoorMDoKind3
import Derived.LoopN
import Derived.Scope
import Derived.Below
import Derived.IntWalk
import Derived.SliceStrings
set_option linter.unusedSimpArgs false
set_option linter.unusedVariables false
open Nat renaming eq_of_beq_eq_true → Cd6, le_refl → Cd7
open List renaming all_eq_true → Cdl, getD_eq_getElem?_getD → Cda, getElem_mem → Cdr, map_cons → Cdd
open Option renaming some.injEq → Cdt
open Bool renaming and_eq_true → Cdv, false_eq_true → Cdw, or_eq_true → Cdz
open Prod renaming mk.injEq → Cd2
open Array renaming getD_eq_getD_getElem? → Cd3
namespace Go.Ev
open Go
def Out.to:Out→Exit
 | .normal=> .normal
 | .exit id=> .exit id
 | .ret=> .ret
theorem Bso (env:Env) (lv:List Nat) (t:Nat): ((env.keep lv).get t).ok=true→(env.keep lv).get t=env.get t:=by
 induction lv with
 |nil=>intro h;simp[Env.keep,Env.get,V.ok] at h
 |cons k lv ih=>
  simp only[Env.keep,Env.get]
  cases hb:Nat.beq k t with
  |true=>intro _;rw[Cd6 hb];rfl
  |false=>exact ih
section
variable {P:Program} {cl:D6} {G:Gi} {Bd:Nat→Prop} {w0:World} {O0:Gz} {pl0:Pl} {n0 nt:Nat}
theorem Rel.keep {st:St} {a:Act} {w:World} (h:Rel G Bd w0 O0 pl0 n0 nt st a w) (lv:List Nat):Rel G Bd w0 O0 pl0 n0 nt ⟨st.env.keep lv,st.hp⟩ a w:=by
 obtain⟨⟨pl,h1,h2,h3,h4,h5,h6⟩,h7,h8⟩:=h
 refine⟨⟨pl,h1,fun t ht=> ?_,h3,h4,h5,h6⟩,h7,h8⟩
 have:=Bso st.env lv t ht
 rw[this] at ht⊢
 exact h2 t ht
def B2s (lp: (St→Option (Out×St))→List Nat→St→Option (Out×St)):Prop:=∀f lv st r,lp f lv st=some r→∃n,G9 f lv n st=some r
theorem RV.lowT {w:World} {O:Gz} {pl:Pl} {n m:Nat} {v:V} {u:Value} (h:RV w O pl n v u) (hb:Go.Ev.S9 m v=true):RV w O pl m v u:=by
 cases h with
 |d x u h=>exact .d x u h
 |agg cs us hl h1 h=>exact RV.lower (.agg cs us hl h1 h) hb (Cd7 _)
 |tup cs us hl h=>simp[Go.Ev.S9,J3,Fz] at hb
 |nils e a=>exact .nils e a
 |any u=>exact .any u
 |slc r' g i k b e c hlt hp hk=>exact RV.lower1 (.slc r' g i k b e c hlt hp hk) hb (Cd7 _)
 |slc0 r' g i a cap hi hlt=>exact RV.lower1 (.slc0 r' g i a cap hi hlt) hb (Cd7 _)
 |ptr r' g i j b e c hlt hp=>exact RV.lower1 (.ptr r' g i j b e c hlt hp) hb (Cd7 _)
 |fn f cs us hl h=>
  refine .fn f cs us hl fun i hi=> (h i hi).lower1 (r:=m) ?_ (Cd7 _)
  simp only[Go.Ev.S9,Cdl] at hb
  have:cs.getD i .any=cs[i]:=by simp[Cda,hi]
  rw[this]
  exact hb _ (Cdr hi)
 |mref r b e c hr h=>exact .mref r b e c (by simpa[Go.Ev.S9] using hb) h
 |und=>exact .und
theorem Xr (env:Env): ∀ (lv:List Nat) (t:Nat),(t∈lv∧(env.keep lv).get t=env.get t)∨(env.keep lv).get t= .any
 | [],t=> .inr rfl
 |k::lv,t=>by
  simp only[Env.keep,Env.get]
  cases hb:Nat.beq k t with
  |true=>rw[Cd6 hb];exact .inl ⟨by simp,rfl⟩
  |false=>
   rcases Xr env lv t with⟨h1,h2⟩ |h
   ·exact .inl ⟨by simp[h1],h2⟩
   ·exact .inr h
theorem HR.fewer {w:World} {pl:Pl} {Bd Bd':Nat→Prop} {H:Hp} (h:HR w pl Bd H) (hb: ∀m,Bd' m→Bd m):HR w pl Bd' H:=
 ⟨h.obj,h.inj,fun m hm=>h.bd m (hb m hm),fun m hm=>h.le m (hb m hm)⟩
theorem Xh {u:List AOper} {B:Bn} : ∀ (l m:List Nat) (st:St),Jo cl G B u (l++m) st=(match Jo cl G B u l st with|some s=>Jo cl G B u m s|none=>none)
 | [],m,st=>rfl
 |i::l,m,st=>by
  simp only[List.cons_append,Jo]
  cases u[i]? with
  |none=>exact Xh l m st
  |some o=>
   cases h:Fa cl G B o st with
   |none=>simp only[h]
   |some s=>simp only[h];exact Xh l m s
theorem Bg2: ∀ds:List D,Gr (ds.map V.d)=some ds
 | []=>rfl
 |x::r=>by simp only[Cdd,Gr,Bg2 r]
def Bdg (x:AOpd) (t:Nat):Bool:=match x with| .t n=> !Nat.beq n t|_=>true
theorem Baw {x:AOpd} {t:Nat} (h:Bdg x t=true) (env:Env) (v:V):Cw G (env.put (some t) v) x=Cw G env x:=by
 cases x with
 |t n=>
  show(env.put (some t) v).get n=env.get n
  rw[Fy,if_neg]
  intro he
  simp only[Cdt] at he
  subst he
  simp[Bdg] at h
 |c x=>rfl
 |f k=>rfl
 |g n=>rfl
 |nil e=>rfl
 |u=>rfl
def Q6 (d:Nat) (z:List V):AOper:=⟨some d,none, .alloc (.agg z)⟩
def Pq (d:Nat) (z:List V) (x:AOpd):AOper:=⟨none,none, .store z.length (.t d) x⟩
theorem Ud (H:Hp) (o o':Obj):Bw (Bp H o) (Bc H) o'=Bp H o':=by
 induction H with
 |nil=>rfl
 |cons a H ih=>exact congrArg (List.cons a) ih
theorem Bbv (H:Hp) (o o':Obj) {r:Nat} (h:r<Bc H):Bw (Bp H o) r o'=Bp (Bw H r o') o:=by
 induction H generalizing r with
 |nil=>simp[Bc] at h
 |cons a H ih=>
  cases r with
  |zero=>rfl
  |succ r=>exact congrArg (List.cons a) (ih (by simp[Bc] at*;omega))
theorem Jq (H:Hp) (o:Obj):Bc (Bp H o)=Bc H+1:=by simp[Bc,Bp]
theorem Bg3 {B:Bn} (d:Nat) (z:List V) (s:St):Fa cl G B (Q6 d z) s=some ⟨s.env.put (some d) (.ptr (Bc s.hp) 0 0 0),Bp s.hp (.row 0 z.length [.agg z])⟩:=rfl
theorem Yd {B:Bn} {d r:Nat} {z:List V} {x:AOpd} {cs:List D} {s:St} (hd:s.env.get d= .ptr r 0 0 0) (hx:Cw G s.env x= .d (.agg cs)) (hl:cs.length=z.length) (hr:Cc s.hp r=some (.row 0 z.length [.agg z])):
  Fa cl G B (Pq d z x) s=some ⟨s.env,Bw s.hp r (.row 0 z.length [.d (.agg cs)])⟩:=by
 have h1: (V.d (.agg cs)).cells=cs.map V.d:=rfl
 have h2:Lr s.hp r 0 0 0 (cs.map V.d)=some (Bw s.hp r (.row 0 z.length [.d (.agg cs)])):=by
  unfold Lr C8
  rw[hr]
  simp only[Nat.beq_refl,cond_true,List.getElem?_cons_zero]
  have h3:0+(cs.map V.d).length≤(V.agg z).cells.length:=by simp[V.cells,hl]
  rw[if_pos h3]
  have h4: (V.agg z).cells.take 0++cs.map V.d++(V.agg z).cells.drop (0+(cs.map V.d).length)=cs.map V.d:=by simp[V.cells,hl]
  rw[h4]
  simp[Lh,V.isAgg,Mw,Bg2]
 show(match Ce cl G B s.env s.hp (.store z.length (.t d) x) with|some (v,H)=>some (St.mk (s.env.put none v) H) |none=>none)=_
 have h5:Ce cl G B s.env s.hp (.store z.length (.t d) x)=some (.und,Bw s.hp r (.row 0 z.length [.d (.agg cs)])):=by
  have hd':Cw G s.env (.t d)= .ptr r 0 0 0:=hd
  simp only[Ce,hd',hx,h1,h2]
  simp[hl,V.sto,Ru,J3]
 rw[h5]
 rfl
theorem Boc {B:Bn} {d1 d2:Nat} {z1 z2:List V} {x1 x2:AOpd} {c1 c2:List D} {s:St} (hne:d1≠d2) (n1:Bdg x1 d1=true) (n2:Bdg x1 d2=true) (n3:Bdg x2 d1=true) (n4:Bdg x2 d2=true)
  (hx1:Cw G s.env x1= .d (.agg c1)) (hx2:Cw G s.env x2= .d (.agg c2)) (l1:c1.length=z1.length) (l2:c2.length=z2.length):
  let env:=(s.env.put (some d1) (.ptr (Bc s.hp) 0 0 0)).put (some d2) (.ptr (Bc s.hp+1) 0 0 0)
  let H:=Bp (Bp s.hp (.row 0 z1.length [.d (.agg c1)])) (.row 0 z2.length [.d (.agg c2)])
  Lb cl G B [Q6 d1 z1,Q6 d2 z2,Pq d1 z1 x1,Pq d2 z2 x2] s=some ⟨env,H⟩∧Lb cl G B [Q6 d1 z1,Q6 d2 z2,Pq d2 z2 x2,Pq d1 z1 x1] s=some ⟨env,H⟩:=by
 intro env H
 have e0:Bc (Bp s.hp (.row 0 z1.length [.agg z1]))=Bc s.hp+1:=Jq _ _
 have g1:env.get d1= .ptr (Bc s.hp) 0 0 0:=by
  show((s.env.put (some d1) _).put (some d2) _).get d1=_
  rw[Fy,if_neg (by simpa using Ne.symm hne),Fy,if_pos rfl]
 have g2:env.get d2= .ptr (Bc s.hp+1) 0 0 0:=by
  show((s.env.put (some d1) _).put (some d2) _).get d2=_
  rw[Fy,if_pos rfl]
 have o1:Cw G env x1= .d (.agg c1):=by rw[Baw n2,Baw n1,hx1]
 have o2:Cw G env x2= .d (.agg c2):=by rw[Baw n4,Baw n3,hx2]
 have hlow:Bc s.hp<Bc (Bp s.hp (.row 0 z1.length [.agg z1])):=by rw[e0];omega
 constructor
 ·simp only[Lb,Bg3,e0]
  have s1:=Yd (cl:=cl) (G:=G) (B:=B) (z:=z1) (x:=x1) (cs:=c1) (s:=⟨env,Bp (Bp s.hp (.row 0 z1.length [.agg z1])) (.row 0 z2.length [.agg z2])⟩) g1 o1 l1 (by rw[Da _ hlow,Co])
  rw[Bbv _ _ _ hlow,Ud] at s1
  rw[s1]
  have e1:Bc (Bp s.hp (.row 0 z1.length [.d (.agg c1)]))=Bc s.hp+1:=Jq _ _
  have s2:=Yd (cl:=cl) (G:=G) (B:=B) (z:=z2) (x:=x2) (cs:=c2) (s:=⟨env,Bp (Bp s.hp (.row 0 z1.length [.d (.agg c1)])) (.row 0 z2.length [.agg z2])⟩) g2 o2 l2 (by rw[←e1,Co])
  have hs:Bw (Bp (Bp s.hp (.row 0 z1.length [.d (.agg c1)])) (.row 0 z2.length [.agg z2])) (Bc s.hp+1) (.row 0 z2.length [.d (.agg c2)])=Bp (Bp s.hp (.row 0 z1.length [.d (.agg c1)])) (.row 0 z2.length [.d (.agg c2)]):=by rw[←e1,Ud]
  simp only[s2,hs]
  rfl
 ·simp only[Lb,Bg3,e0]
  have s2:=Yd (cl:=cl) (G:=G) (B:=B) (z:=z2) (x:=x2) (cs:=c2) (s:=⟨env,Bp (Bp s.hp (.row 0 z1.length [.agg z1])) (.row 0 z2.length [.agg z2])⟩) g2 o2 l2 (by rw[←e0,Co])
  have hs:Bw (Bp (Bp s.hp (.row 0 z1.length [.agg z1])) (.row 0 z2.length [.agg z2])) (Bc s.hp+1) (.row 0 z2.length [.d (.agg c2)])=Bp (Bp s.hp (.row 0 z1.length [.agg z1])) (.row 0 z2.length [.d (.agg c2)]):=by rw[←e0,Ud]
  simp only[hs] at s2
  rw[s2]
  have s1:=Yd (cl:=cl) (G:=G) (B:=B) (z:=z1) (x:=x1) (cs:=c1) (s:=⟨env,Bp (Bp s.hp (.row 0 z1.length [.agg z1])) (.row 0 z2.length [.d (.agg c2)])⟩) g1 o1 l1 (by rw[Da _ hlow,Co])
  rw[Bbv _ _ _ hlow,Ud] at s1
  simp only[s1]
  rfl
def rho (h r:Nat):Nat:=if r=h then h+1 else if r=h+1 then h else r
theorem Bgp (h r:Nat):rho h (rho h r)=r:=by
 unfold rho
 by_cases h1:r=h
 ·subst h1;simp
 ·by_cases h2:r=h+1
  ·subst h2;simp
  ·simp[h1,h2]
theorem Bny {h r:Nat} (hr:r<h):rho h r=r:=by
 unfold rho
 rw[if_neg (by omega),if_neg (by omega)]
theorem Sz (H:Hp) (o1 o2:Obj) (r:Nat):Cc (Bp (Bp H o1) o2) r=if r<Bc H then Cc H r else if r=Bc H then some o1 else if r=Bc H+1 then some o2 else none:=by
 have e0:Bc (Bp H o1)=Bc H+1:=Jq _ _
 by_cases h1:r<Bc H
 ·rw[if_pos h1,Da _ (by omega),Da _ h1]
 ·rw[if_neg h1]
  by_cases h2:r=Bc H
  ·rw[if_pos h2,Da _ (by omega),h2,Co]
  ·rw[if_neg h2]
   by_cases h3:r=Bc H+1
   ·rw[if_pos h3,h3,←e0,Co]
   ·rw[if_neg h3]
    cases hg:Cc (Bp (Bp H o1) o2) r with
    |none=>rfl
    |some o=>
     have:=Fu hg
     rw[Jq,Jq] at this
     omega
theorem Bee (H:Hp) (o1 o2:Obj) (r:Nat):Cc (Bp (Bp H o2) o1) r=Cc (Bp (Bp H o1) o2) (rho (Bc H) r):=by
 rw[Sz,Sz]
 unfold rho
 by_cases h1:r<Bc H
 ·have h2: ¬r=Bc H:=by omega
  have h3: ¬r=Bc H+1:=by omega
  simp[h1,h2,h3]
 ·have n1: ¬Bc H+1<Bc H:=by omega
  by_cases h2:r=Bc H
  ·subst h2;simp[n1]
  ·by_cases h3:r=Bc H+1
   ·subst h3;simp[n1]
   ·simp[h1,h2,h3]
def R4 (pl:Pl) (h:Nat):Pl:=fun r=>pl (rho h r)
theorem Ba6 (pl:Pl) (H:Hp) (o1 o2:Obj) (r:Nat):Gq (R4 pl (Bc H)) (Bp (Bp H o2) o1) r=Gq pl (Bp (Bp H o1) o2) (rho (Bc H) r):=by
 unfold Gq
 rw[Bee]
 rfl
theorem Bcf (pl:Pl) (H:Hp) (o1 o2:Obj):Bl (R4 pl (Bc H)) (Bp (Bp H o2) o1)=Bl pl (Bp (Bp H o1) o2):=by
 funext b
 apply propext
 constructor
 ·rintro⟨r,hr⟩
  exact⟨_,by rw[←Ba6];exact hr⟩
 ·rintro⟨r,hr⟩
  exact⟨rho (Bc H) r,by rw[Ba6,Bgp];exact hr⟩
theorem Bc8 {pl:Pl} {h m:Nat} (hm:m≤h):PlExt m pl (R4 pl h):=fun r hr g p hp=>by
 show pl (rho h r) g=some p
 rw[Bny (by omega)]
 exact hp
theorem Bnm {w:World} {O:Gz} {pl pl':Pl} {n n' r r':Nat} {g e:Nat} {x:D} (hp:pl' r'=pl r) (h:OR w O pl n r (.row g e [.d x])):OR w O pl' n' r' (.row g e [.d x]):=by
 cases h with
 |row g e xs b c arr ty fr hp' hh hs hf hx he hr h1 hg=>
  refine .row g e _ b c arr ty fr (by rw[hp];exact hp') hh hs hf hx he (fun i j hi hj=> ?_) h1 (by rw[hp];exact hg)
  have hv:=hr i j hi hj
  have hi0:i=0:=by simpa using hi
  subst hi0
  simp only[List.getD_cons_zero] at hv⊢
  have hd: ∃y,(V.d x).cells.getD j .any= .d y∨(V.d x).cells.getD j .any= .any:=by
   cases x with
   |agg cs=>
    by_cases hj2:j<cs.length
    ·exact⟨cs[j], .inl (by simp[V.cells,Cda,hj2])⟩
    ·exact⟨.nilp, .inr (by simp[V.cells,Cda,hj2])⟩
   |_=>
    by_cases hj2:j=0
    ·subst hj2;exact⟨_, .inl rfl⟩
    ·exact⟨.nilp, .inr (by simp only[V.cells];rw[Cda,List.getElem?_eq_none (by simp;omega)];rfl)⟩
  obtain⟨y,hy|hy⟩:=hd
  ·rw[hy] at hv⊢
   cases hv with|d _ _ hq=>exact .d _ _ hq
  ·rw[hy];exact .any _
theorem HR.swap {w:World} {pl:Pl} {Bd:Nat→Prop} {H:Hp} {e1 e2:Nat} {x y:D} (h:HR w pl (fun m=>Bd m∨m=Bc H) (Bp (Bp H (.row 0 e1 [.d x])) (.row 0 e2 [.d y]))) (hb: ∀m,Bd m→m≤Bc H):
  HR w (R4 pl (Bc H)) Bd (Bp (Bp H (.row 0 e2 [.d y])) (.row 0 e1 [.d x])):=by
 have ho:=Bcf pl H (.row 0 e1 [.d x]) (.row 0 e2 [.d y])
 have hl1:Bc (Bp (Bp H (.row 0 e2 [.d y])) (.row 0 e1 [.d x]))=Bc H+2:=by rw[Jq,Jq]
 have low: ∀m,(Bd m∨m=Bc H)→m≤Bc H→∀n',m≤n'→∀r o,r<m→Cc H r=some o→OR w (Bl (R4 pl (Bc H)) (Bp (Bp H (.row 0 e2 [.d y])) (.row 0 e1 [.d x]))) (R4 pl (Bc H)) n' r o:=by
  intro m hm hle n' hn r o hr hg
  rw[ho]
  have h1:=h.bd m hm r o hr (by rw[Sz,if_pos (by omega)];exact hg)
  exact h1.mono (Ext.refl _ _) (Bc8 hle) hn (by show pl (rho (Bc H) r)=pl r;rw[Bny (by omega)]) (fun _ _ _ _ _=>rfl)
 refine⟨fun r o hg=> ?_,fun r r' b h1 h2=> ?_,fun m hm r o hr hg=> ?_,fun m hm=>by rw[hl1];have:=hb m hm;omega⟩
 ·have hg0:=hg
  rw[Sz] at hg
  by_cases c1:r<Bc H
  ·rw[if_pos c1] at hg
   exact low _ (.inr rfl) (Cd7 _) _ (by rw[hl1];omega) r o c1 hg
  ·rw[if_neg c1] at hg
   rw[Bee] at hg0
   have h0:=h.obj _ _ hg0
   rw[←ho] at h0
   by_cases c2:r=Bc H
   ·rw[if_pos c2] at hg
    simp only[Cdt] at hg
    subst hg
    exact Bnm (pl:=pl) (pl':=R4 pl (Bc H)) (r:=rho (Bc H) r) (r':=r) rfl h0
   ·rw[if_neg c2] at hg
    by_cases c3:r=Bc H+1
    ·rw[if_pos c3] at hg
     simp only[Cdt] at hg
     subst hg
     exact Bnm (pl:=pl) (pl':=R4 pl (Bc H)) (r:=rho (Bc H) r) (r':=r) rfl h0
    ·rw[if_neg c3] at hg;cases hg
 ·rw[Ba6] at h1 h2
  have:=h.inj _ _ _ h1 h2
  have e:=congrArg (rho (Bc H)) this
  rwa[Bgp,Bgp] at e
 ·have hle:=hb m hm
  rw[Sz,if_pos (by omega)] at hg
  exact low m (.inl hm) hle m (Cd7 _) r o hr hg
theorem Bui {s:St} {lv:List Nat} {d1 d2 e1 e2:Nat} {x y:D} {a:Act} {w:World} (hne:d1≠d2) (hlow: (lv.all fun t=>S9 (Bc s.hp) (s.env.get t))=true) (hb: ∀m,Bd m→m≤Bc s.hp) (hn:n0≤Bc s.hp)
  (h:Rel G (fun m=>Bd m∨m=Bc s.hp) w0 O0 pl0 n0 nt ⟨(s.env.put (some d2) (.ptr (Bc s.hp) 0 0 0)).put (some d1) (.ptr (Bc s.hp+1) 0 0 0),Bp (Bp s.hp (.row 0 e2 [.d y])) (.row 0 e1 [.d x])⟩ a w):
  Rel G Bd w0 O0 pl0 n0 nt ⟨((s.env.keep lv).put (some d1) (.ptr (Bc s.hp) 0 0 0)).put (some d2) (.ptr (Bc s.hp+1) 0 0 0),Bp (Bp s.hp (.row 0 e1 [.d x])) (.row 0 e2 [.d y])⟩ a w:=by
 obtain⟨⟨pl,h1,h2,h3,h4,h5,h6⟩,h7,h8⟩:=h
 have ho:=Bcf pl s.hp (.row 0 e2 [.d y]) (.row 0 e1 [.d x])
 have hl1:Bc (Bp (Bp s.hp (.row 0 e1 [.d x])) (.row 0 e2 [.d y]))=Bc s.hp+2:=by rw[Jq,Jq]
 have hl2:Bc (Bp (Bp s.hp (.row 0 e2 [.d y])) (.row 0 e1 [.d x]))=Bc s.hp+2:=by rw[Jq,Jq]
 refine⟨⟨R4 pl (Bc s.hp),h1.swap hb,fun t ht=> ?_,by rw[ho];exact h3,by rw[ho];exact h4,fun r hr g p hp=>Bc8 (Cd7 _) r (by omega) g p (h5 r hr g p hp),by rw[hl1];omega⟩,h7,h8⟩
 rw[ho,hl1]
 rw[hl2] at h2
 simp only at ht h2⊢
 rw[Fy,Fy] at ht⊢
 by_cases c2: (some d2:Option Nat)=some t
 ·rw[if_pos c2]
  have e2':d2=t:=by simpa using c2
  subst e2'
  have hv:=h2 d2
  rw[Fy,if_neg (by simpa using hne),Fy,if_pos rfl] at hv
  have hv:=hv rfl
  generalize a.tmps.getD d2 undef=q at hv⊢
  cases hv with
  |ptr r g i j b e c hr hp=>exact .ptr _ 0 0 0 b e c (by omega) (by show pl (rho (Bc s.hp) (Bc s.hp+1)) 0=_;unfold rho;simp;exact hp)
 ·rw[if_neg c2] at ht⊢
  by_cases c1: (some d1:Option Nat)=some t
  ·rw[if_pos c1]
   have e1':d1=t:=by simpa using c1
   subst e1'
   have hv:=h2 d1
   rw[Fy,if_pos rfl] at hv
   have hv:=hv rfl
   generalize a.tmps.getD d1 undef=q at hv⊢
   cases hv with
   |ptr r g i j b e c hr hp=>exact .ptr _ 0 0 0 b e c (by omega) (by show pl (rho (Bc s.hp) (Bc s.hp)) 0=_;unfold rho;simp;exact hp)
  ·rw[if_neg c1] at ht⊢
   rcases Xr s.env lv t with⟨k1,k2⟩ |k
   ·rw[k2] at ht⊢
    have hv:=h2 t
    rw[Fy,if_neg c1,Fy,if_neg c2] at hv
    exact((hv ht).lowT (Cdl.1 hlow t k1)).mono (Ext.refl _ _) (Bc8 (Cd7 _)) (by omega)
   ·rw[k] at ht;simp[V.ok] at ht
theorem Bsy {s:St} {lv:List Nat} {d1 d2:Nat} {p1 p2:V} {H:Hp} {a:Act} {w:World} (h:Rel G (fun m=>Bd m∨m=Bc s.hp) w0 O0 pl0 n0 nt ⟨(s.env.put (some d1) p1).put (some d2) p2,H⟩ a w):
  Rel G Bd w0 O0 pl0 n0 nt ⟨((s.env.keep lv).put (some d1) p1).put (some d2) p2,H⟩ a w:=by
 obtain⟨⟨pl,h1,h2,h3,h4,h5,h6⟩,h7,h8⟩:=h
 refine⟨⟨pl,h1.fewer fun m hm=> .inl hm,fun t ht=> ?_,h3,h4,h5,h6⟩,h7,h8⟩
 simp only at ht h2⊢
 have hv:=h2 t
 rw[Fy,Fy] at ht hv⊢
 by_cases c2: (some d2:Option Nat)=some t
 ·rw[if_pos c2] at ht hv⊢;exact hv ht
 ·rw[if_neg c2] at ht hv⊢
  by_cases c1: (some d1:Option Nat)=some t
  ·rw[if_pos c1] at ht hv⊢;exact hv ht
  ·rw[if_neg c1] at ht hv⊢
   rcases Xr s.env lv t with⟨k1,k2⟩ |k
   ·rw[k2] at ht⊢;exact hv ht
   ·rw[k] at ht;simp[V.ok] at ht
def Bai (ops:List AOper) (da:Nat) (za:List V) (xa:AOpd) (db:Nat) (zb:List V) (xb:AOpd):List AOper:=ops++[Q6 da za,Q6 db zb,Pq da za xa,Pq db zb xb]
def B0l (P:Program) (nt:Nat) (ops:Array Oper) (aos:List AOper) (da:Nat) (za:List V) (xa:AOpd) (db:Nat) (zb:List V) (xb:AOpd):Bool:=
 !Nat.beq da db&&Bdg xa da&&Bdg xa db&&Bdg xb da&&Bdg xb db&&
 (match Bf3 P ops nt (Bai aos da za xa db zb xb) [] with
 |some σ=>
  (match σ.drop aos.length with
  |i::j::r=>
   Nat.beq σ.length (aos.length+4) &&Nat.ble σ.length ops.size&&K5 P ops nt ops.toList (Qm ops.size σ (Bai aos da za xa db zb xb)) &&Baj ops (Qm ops.size σ (Bai aos da za xa db zb xb)) i j [] σ&&
    Baj ops (Qm ops.size σ (Bai aos da za xa db zb xb)) j i [] (σ.take aos.length++j::i::r) && (List.range ops.size).all (fun k=>σ.contains k) && !Nat.beq i j
  |_=>false)
 |none=>false)
theorem Zj {v:V} {x:List D} (h:Yo v=some x):v= .d (.agg x):=by
 unfold Yo at h
 split at h
 ·simp only[Cdt] at h;rw[h]
 ·simp at h
theorem Bo0 (hm:P.follows .mixedOrders=true) (hcl:Fg P G cl) {B:Bn} (hn0:N8 Bd B) {id:Nat} {ops:Array Oper} {lv:List Nat} {aos:List AOper} {da db:Nat} {za zb:List V} {xa xb:AOpd} (hc:B0l P nt ops aos da za xa db zb xb=true) {Q:Exit→Act→World→Prop}
  {st st':St} {a:Act} {w:World} (hR:Rel G Bd w0 O0 pl0 n0 nt st a w) (h:ev2 cl G B lv aos da za xa db zb xb st=some st') (hQ: ∀a' w',Rel G Bd w0 O0 pl0 n0 nt st' a' w'→Q .normal a' w'): (Code.region id ops true).wp P Q a w:=by
 unfold B0l at hc
 simp only[Cdv] at hc
 obtain⟨⟨⟨⟨⟨c1,n1⟩,n2⟩,n3⟩,n4⟩,hc⟩:=hc
 have hne:da≠db:=fun he=>by subst he;simp at c1
 split at hc
 case h_2=>simp at hc
 rename_i σ _
 split at hc
 case h_2=>simp at hc
 rename_i i j r hdrop
 simp only[Cdv] at hc
 obtain⟨⟨⟨⟨⟨⟨b1,b2⟩,b3⟩,b4⟩,b5⟩,b6⟩,b7⟩:=hc
 have hl:=Cd6 b1
 have hle:=Nat.le_of_ble_eq_true b2
 have hij:i≠j:=fun he=>by subst he;simp at b7
 have hσ:σ=σ.take aos.length++i::j::r:=by rw[←hdrop,List.take_append_drop]
 have hs: ∀k∈σ,k<ops.size:=fun k hk=>by
  obtain⟨m1,m2,em⟩:=List.append_of_mem hk
  exact(Rv b4 em).2.2.1
 have hall: ∀k,k<ops.size→k∈σ:=fun k hk=>by
  have:=Cdl.1 b6 k (List.mem_range.2 hk)
  simpa using this
 have hall2: ∀k,k<ops.size→k∈σ.take aos.length++j::i::r:=fun k hk=>by
  have:=hall k hk
  rw[hσ] at this
  simp only[List.mem_append,List.mem_cons] at this⊢
  rcases this with h|h|h|h
  ·exact .inl h
  ·exact .inr (.inr (.inl h))
  ·exact .inr (.inl h)
  ·exact .inr (.inr (.inr h))
 have hL: (Bai aos da za xa db zb xb).length=σ.length:=by rw[hl];simp[Bai]
 have hu:=Zg (Wl b4).1 hL hs
 generalize hU:Qm ops.size σ (Bai aos da za xa db zb xb)=u at*
 have htl: (σ.take aos.length).length=aos.length:=by rw[List.length_take];omega
 have hrl:r.length=2:=by
  have:=congrArg List.length hσ
  simp only[List.length_append,List.length_cons,htl] at this
  omega
 have hpre: ∀s:St,Jo cl G ⟨B.n,Bc st.hp::B.ts⟩ u (σ.take aos.length) s=Lb cl G ⟨B.n,Bc st.hp::B.ts⟩ aos s:=fun s=>by
  refine(Bap (u:=u) (aos:=aos) (σ:=σ.take aos.length) htl.symm (fun k i hk=> ?_) s).symm
  have hkl:k<aos.length:=by
   have:=(List.getElem?_eq_some_iff.1 hk).1
   omega
  rw[hu k i (by rw[List.getElem?_take,if_pos hkl] at hk;exact hk)]
  simp[Bai,List.getElem?_append_left hkl]
 have at2: ∀k,(σ.drop aos.length)[k]? =σ[aos.length+k]? :=fun k=>by rw[List.getElem?_drop]
 have ui:u[i]? =some (Q6 da za):=by
  rw[hu aos.length i (by have:=at2 0;rw[hdrop] at this;simpa using this.symm)]
  simp[Bai]
 have uj:u[j]? =some (Q6 db zb):=by
  rw[hu (aos.length+1) j (by have:=at2 1;rw[hdrop] at this;simpa using this.symm)]
  simp[Bai,List.getElem?_append_right]
 have htail: ∀s:St,Jo cl G ⟨B.n,Bc st.hp::B.ts⟩ u r s=Lb cl G ⟨B.n,Bc st.hp::B.ts⟩ [Pq da za xa,Pq db zb xb] s:=fun s=>by
  refine(Bap (u:=u) (aos:=[Pq da za xa,Pq db zb xb]) (σ:=r) (by rw[hrl];rfl) (fun k i' hk=> ?_) s).symm
  have hkl:k<2:=by
   have:=(List.getElem?_eq_some_iff.1 hk).1
   omega
  rw[hu (aos.length+(k+2)) i' (by have:=at2 (k+2);rw[hdrop] at this;simp only[List.getElem?_cons_succ] at this;rw[←this];exact hk)]
  match k,hkl with
  |0,_=>simp[Bai,List.getElem?_append_right]
  |1,_=>simp[Bai,List.getElem?_append_right]
 unfold ev2 at h
 split at h
 case h_2=>simp at h
 rename_i s hev
 split at h
 case h_2=>simp at h
 rename_i x y hx hy
 have hx:=Zj hx
 have hy:=Zj hy
 rw[hx,hy] at h
 split at h
 case isFalse=>simp at h
 rename_i hcond
 obtain⟨hh,lx,ly,hlow⟩:=hcond
 simp only[Cdt] at h
 subst h
 have t1:=(Boc (cl:=cl) (G:=G) (B:=⟨B.n,Bc st.hp::B.ts⟩) (s:=s) hne n1 n2 n3 n4 hx hy lx ly).1
 have t2:=(Boc (cl:=cl) (G:=G) (B:=⟨B.n,Bc st.hp::B.ts⟩) (s:=s) (Ne.symm hne) n4 n3 n2 n1 hy hx ly lx).2
 have e1:Jo cl G ⟨B.n,Bc st.hp::B.ts⟩ u σ st=some ⟨(s.env.put (some da) (.ptr (Bc s.hp) 0 0 0)).put (some db) (.ptr (Bc s.hp+1) 0 0 0),Bp (Bp s.hp (.row 0 za.length [.d (.agg x)])) (.row 0 zb.length [.d (.agg y)])⟩:=by
  rw[hσ,Xh,hpre,hev]
  simp only[Jo,ui,uj,htail]
  exact t1
 have e2:Jo cl G ⟨B.n,Bc st.hp::B.ts⟩ u (σ.take aos.length++j::i::r) st=some ⟨(s.env.put (some db) (.ptr (Bc s.hp) 0 0 0)).put (some da) (.ptr (Bc s.hp+1) 0 0 0),Bp (Bp s.hp (.row 0 zb.length [.d (.agg y)])) (.row 0 za.length [.d (.agg x)])⟩:=by
  rw[Xh,hpre,hev]
  simp only[Jo,ui,uj,htail]
  exact t2
 obtain⟨⟨pl,h1,h2,h3,h4,h5,h6⟩,h7,h8⟩:=hR
 have hn1:N8 (fun m=>Bd m∨m=Bc st.hp) ⟨B.n,Bc st.hp::B.ts⟩:=fun m hm=>by
  rcases hm with hm|rfl
  ·rcases hn0 m hm with h|h
   ·exact .inl h
   ·exact .inr (List.mem_cons_of_mem _ h)
  ·exact .inr (List.mem_cons_self ..)
 have hR1:Rel G (fun m=>Bd m∨m=Bc st.hp) w0 O0 pl0 n0 nt st a w:=⟨⟨pl,h1.enter,h2,h3,h4,h5,h6⟩,h7,h8⟩
 have hle1: ∀m,Bd m→m≤Bc s.hp:=fun m hm=>by rw[hh];exact h1.le m hm
 refine wp_region_any hm ?_
 have hrest: ∀τ:List Nat,(∀k∈τ,k<ops.size)→Dx τ (Array.replicate ops.size false)=τ:=fun τ hτ=>by
  unfold Dx
  refine List.filter_eq_self.2 fun k hk=> ?_
  have:=hτ k hk
  simp[this]
 have hs2: ∀k∈σ.take aos.length++j::i::r,k<ops.size:=fun k hk=>by
  obtain⟨m1,m2,em⟩:=List.append_of_mem hk
  exact(Rv b5 em).2.2.1
 have hi:i<ops.size:=hs i (by rw[hσ];simp)
 have hj:j<ops.size:=hs j (by rw[hσ];simp)
 have hll: (σ.take aos.length++j::i::r).length=σ.length:=by
  conv=>rhs;rw[hσ]
  simp
 refine Bj4 hcl hn1 b3 b4 b5 hij hi hall hall2 ops.size _ (by simp) (fun k o hk=> ?_) (by simp[hi]) (by simp[hj]) hR1.drawn (by rw[hrest _ hs];exact e1) (by rw[hrest _ hs2];exact e2) (by rw[hrest _ hs];exact hle) (by rw[hrest _ hs2,hll];exact hle) (fun a' w' hR'=>hQ a' w' ?_) (fun a' w' hR'=>hQ a' w' ?_)
 ·exfalso
  simp[Array.getElem?_replicate] at hk
  split at hk<;>simp at hk
 ·rw[←hh] at hR'
  exact Bsy hR'
 ·rw[←hh] at hR' hlow
  exact Bui hne hlow hle1 (by rw[hh];exact h6) hR'
def Fx (P:Program) (nt:Nat):Code→ACode→Bool
 | .skip, .skip=>true
 | .region _ ops draw, .reg draw' aos=> ((draw==draw') &&K5 P ops nt ops.toList aos&& (!draw||Bnn ops aos)) || (draw&&Bfh P ops nt aos)
 | .region _ ops draw, .regx L=>draw&&B0m P ops nt L
 | .region _ ops draw, .reg2 _ aos da za xa db zb xb=>draw&&B0l P nt ops aos da za xa db zb xb
 | .seq x y, .seq a _ b=>Fx P nt x a&&Fx P nt y b
 | .cond c x y, .cond d a b=>Cb d c&&Fx P nt x a&&Fx P nt y b
 | .block i x, .block j a=>Nat.beq i j&&Fx P nt x a
 | .loop x, .loop _ a=>Fx P nt x a
 | .scope x, .scope a=>Fx P nt x a
 |c, .trim _ a=>Fx P nt c a
 |c, .frz _ a=>Fx P nt c a
 | .exit i, .exit j=>Nat.beq i j
 | .ret, .ret=>true
 |_,_=>false
theorem Bba (hm:P.follows .mixedOrders=true) (hcl:Fg P G cl) {lp: (St→Option (Out×St))→List Nat→St→Option (Out×St)} (hlp:B2s lp):
  ∀ (ac:ACode) (c:Code),Fx P nt c ac=true→∀ {Bd:Nat→Prop} {w0:World} {O0:Gz} {pl0:Pl} {n0:Nat} {B:Bn} (hn0:N8 Bd B) (st:St) (out:Out) (st':St),Bq cl G B lp ac st=some (out,st')→∀ (a:Act) (w:World) (Q:Exit→Act→World→Prop),Rel G Bd w0 O0 pl0 n0 nt st a w→
   (∀a' w',Rel G Bd w0 O0 pl0 n0 nt st' a' w'→Q out.to a' w')→c.wp P Q a w:=by
 intro ac
 induction ac with
 |skip=>
  intro c hc Bd w0 O0 pl0 n0 B hn0 st out st' h a w Q hR hQ
  cases c<;>simp only[Fx,Cdw] at hc
  simp only[Bq,Cdt,Cd2] at h
  obtain⟨rfl,rfl⟩:=h
  exact wp_skip (hQ a w hR)
 |reg draw aos=>
  intro c hc Bd w0 O0 pl0 n0 B hn0 st out st' h a w Q hR hQ
  cases c<;>simp only[Fx,Cdw] at hc
  rename_i id ops dr
  rw[Cdz,Cdv,Cdv,Cdz,Cdv] at hc
  simp only[Bq] at h
  split at h
  ·rename_i s1 h1
   simp only[Cdt,Cd2] at h
   obtain⟨rfl,rfl⟩:=h
   rcases hc with hc| ⟨rfl,hc⟩
   ·exact Bp4 hm hcl hn0 hc.1.2 (fun hd=>hc.2.resolve_left (by simp[hd])) hR h1 hQ
   ·exact Blw hm hcl hn0 hc hR h1 hQ
  ·simp at h
 |regx L=>
  intro c hc Bd w0 O0 pl0 n0 B hn0 st out st' h a w Q hR hQ
  cases c<;>simp only[Fx,Cdw] at hc
  rename_i id ops dr
  rw[Cdv] at hc
  obtain⟨rfl,hc⟩:=hc
  simp only[Bq] at h
  split at h
  ·rename_i s1 h1
   simp only[Cdt,Cd2] at h
   obtain⟨rfl,rfl⟩:=h
   exact Blx hm hcl hn0 hc hR h1 hQ
  ·simp at h
 |reg2 lv aos da za xa db zb xb=>
  intro c hc Bd w0 O0 pl0 n0 B hn0 st out st' h a w Q hR hQ
  cases c<;>simp only[Fx,Cdw] at hc
  rename_i id ops dr
  rw[Cdv] at hc
  obtain⟨rfl,hc⟩:=hc
  simp only[Bq] at h
  split at h
  ·rename_i s1 h1
   simp only[Cdt,Cd2] at h
   obtain⟨rfl,rfl⟩:=h
   exact Bo0 hm hcl hn0 hc hR h1 hQ
  ·simp at h
 |seq x lv y ihx ihy=>
  intro c hc Bd w0 O0 pl0 n0 B hn0 st out st' h a w Q hR hQ
  cases c<;>simp only[Fx,Cdw] at hc
  rename_i cx cy
  rw[Cdv] at hc
  simp only[Bq] at h
  refine wp_seq ?_
  split at h
  ·rename_i s1 h1
   exact ihx cx hc.1 hn0 st .normal s1 h1 a w _ hR fun a' w' hR'=>ihy cy hc.2 hn0 _ out st' h a' w' Q (hR'.keep lv) hQ
  ·rename_i hne
   refine ihx cx hc.1 hn0 st out st' h a w _ hR fun a' w' hR'=> ?_
   have:=hQ a' w' hR'
   cases out with
   |normal=>exact absurd h (hne st')
   |exit id=>exact this
   |ret=>exact this
 |cond d x y ihx ihy=>
  intro c hc Bd w0 O0 pl0 n0 B hn0 st out st' h a w Q hR hQ
  cases c<;>simp only[Fx,Cdw] at hc
  rename_i oc cx cy
  rw[Cdv,Cdv] at hc
  simp only[Bq] at h
  split at h
  ·rename_i t ht
   have hv:a.eval oc= .bool t:=by
    obtain⟨⟨pl,h1,h2,h3,h4,h5,h6⟩,h7,h8⟩:=hR
    have:=Cu hc.1.1 h3 h2 (by rw[ht];rfl)
    rw[ht] at this
    exact this.bool_eq
   refine wp_cond hv ?_
   cases t with
   |true=>exact ihx cx hc.1.2 hn0 st out st' h a w Q hR hQ
   |false=>exact ihy cy hc.2 hn0 st out st' h a w Q hR hQ
  ·simp at h
 |block id x ih=>
  intro c hc Bd w0 O0 pl0 n0 B hn0 st out st' h a w Q hR hQ
  cases c<;>simp only[Fx,Cdw] at hc
  rename_i id' cx
  rw[Cdv] at hc
  have hid:=Cd6 hc.1
  subst hid
  simp only[Bq] at h
  refine wp_block ?_
  split at h
  ·rename_i k s1 h1
   refine ih cx hc.2 hn0 st _ s1 h1 a w _ hR fun a' w' hR'=> ?_
   show Exit.inBlock id' Q (.exit k) a' w'
   simp only[Exit.inBlock]
   cases hb:Nat.beq k id' with
   |true=>
    rw[if_pos (Cd6 hb)]
    rw[hb] at h
    simp only[cond_true,Cdt,Cd2] at h
    obtain⟨rfl,rfl⟩:=h
    exact hQ a' w' hR'
   |false=>
    rw[if_neg (fun he=>by subst he;simp at hb)]
    rw[hb] at h
    simp only[cond_false,Cdt,Cd2] at h
    obtain⟨rfl,rfl⟩:=h
    exact hQ a' w' hR'
  ·rename_i hne
   refine ih cx hc.2 hn0 st out st' h a w _ hR fun a' w' hR'=> ?_
   have:=hQ a' w' hR'
   cases out with
   |normal=>exact this
   |exit k=>exact absurd h (hne k st')
   |ret=>exact this
 |loop lv x ih=>
  intro c hc Bd w0 O0 pl0 n0 B hn0 st out st' h a w Q hR hQ
  cases c<;>simp only[Fx,Cdw] at hc
  rename_i cx
  simp only[Bq] at h
  obtain⟨n,hn⟩:=hlp _ _ _ _ h
  refine wp_loop_rounds n ?_
  clear h
  induction n generalizing st a w with
  |zero=>simp[G9] at hn
  |succ n ihn=>
   simp only[G9] at hn
   show cx.wp P _ a w
   split at hn
   ·rename_i s1 h1
    exact ih cx hc hn0 _ .normal s1 h1 a w _ (hR.keep lv) fun a' w' hR'=>ihn s1 a' w' hR' hn
   ·rename_i hne
    refine ih cx hc hn0 _ out st' hn a w _ (hR.keep lv) fun a' w' hR'=> ?_
    have:=hQ a' w' hR'
    cases out with
    |normal=>exact absurd hn (hne st')
    |exit id=>exact this
    |ret=>exact this
 |scope x ih=>
  intro c hc Bd w0 O0 pl0 n0 B hn0 st out st' h a w Q hR hQ
  cases c<;>simp only[Fx,Cdw] at hc
  rename_i cx
  simp only[Bq] at h
  refine wp_scope_straight (ih cx hc hn0 st out st' h a w _ hR fun a' w' hR'=> ?_)
  have:=hQ a' w' hR'
  cases out<;>exact this
 |trim lv x ih=>
  intro c hc Bd w0 O0 pl0 n0 B hn0 st out st' h a w Q hR hQ
  have hc':Fx P nt c x=true:=by
   cases c<;>exact hc
  obtain⟨⟨pl,h1,h2,h3,h4,h5,h6⟩,h7,h8⟩:=hR
  have hn1:N8 (fun m=>Bd m∨m=Bc st.hp) ⟨B.n,Bc st.hp::B.ts⟩:=fun m hm=>by
   rcases hm with hm|rfl
   ·rcases hn0 m hm with h|h
    ·exact .inl h
    ·exact .inr (List.mem_cons_of_mem _ h)
   ·exact .inr (List.mem_cons_self ..)
  have hR1:Rel G (fun m=>Bd m∨m=Bc st.hp) w (Bl pl st.hp) pl (Bc st.hp) nt st a w:=⟨⟨pl,h1.enter,h2,h3,Ext.refl _ _,PlExt.refl _ _,Cd7 _⟩,h7,h8⟩
  simp only[Bq] at h
  cases hx:Bq cl G ⟨B.n,Bc st.hp::B.ts⟩ lp x st with
  |none=>rw[hx] at h;simp at h
  |some p=>
   obtain⟨o,s1⟩:=p
   rw[hx] at h
   refine ih c hc' hn1 st o s1 hx a w Q hR1 fun a' w' hR'=> ?_
   obtain⟨⟨pl',k1,k2,k3,k4,k5,k6⟩,k7,k8⟩:=hR'
   have other: (out=o∧st'=s1)→Q o.to a' w':=by
    rintro⟨rfl,rfl⟩
    exact hQ a' w' ⟨⟨pl',k1.fewer (fun m hm=> .inl hm),k2,k3,h4.trans k4,h5.trans (k5.le h6),Nat.le_trans h6 k6⟩,k7,k8⟩
   cases o with
   |normal=>
    simp only at h
    split at h
    ·rename_i hlow
     simp only[Cdt,Cd2] at h
     obtain⟨rfl,rfl⟩:=h
     obtain⟨t1,t2⟩:=k1.take (Bc st.hp) (Or.inr rfl) (Bd':=Bd) (fun m hm=> ⟨Or.inl hm,h1.le m hm⟩)
     refine hQ a' w' ⟨⟨pl',t1,fun t ht=> ?_,k3.mono t2,h4.trans (k4.trans t2),h5.trans (k5.le h6),by rw[F6 k6];exact h6⟩,k7,k8⟩
     rw[F6 k6]
     rcases Xr s1.env lv t with⟨g1,g2⟩ |g
     ·rw[g2] at ht⊢
      have:=Cdl.1 hlow t g1
      exact((k2 t ht).lowT this).mono t2 (PlExt.refl _ _) (Cd7 _)
     ·rw[g] at ht;simp[V.ok] at ht
    ·simp at h
   |exit id=>exact other (by simpa using h.symm)
   |ret=>exact other (by simpa using h.symm)
 |frz ts x ih=>
  intro c hc Bd w0 O0 pl0 n0 B hn0 st out st' h a w Q hR hQ
  have hc':Fx P nt c x=true:=by
   cases c<;>exact hc
  simp only[Bq] at h
  split at h
  ·rename_i e1 H1 hf
   obtain⟨⟨pl,h1,h2,h3,h4,h5,h6⟩,h7,h8⟩:=hR
   obtain⟨k1,k2,k3,k4⟩:=Bnh ts h1 h2 hf
   exact ih c hc' hn0 _ out st' h a w Q ⟨⟨pl,k1,by rw[←k3] at k4;exact k4,h3.mono k2,h4.trans k2,h5,by rw[k3];exact h6⟩,h7,h8⟩ hQ
  ·simp at h
 |exit id=>
  intro c hc Bd w0 O0 pl0 n0 B hn0 st out st' h a w Q hR hQ
  cases c<;>simp only[Fx,Cdw] at hc
  have hid:=Cd6 hc
  subst hid
  simp only[Bq,Cdt,Cd2] at h
  obtain⟨rfl,rfl⟩:=h
  exact wp_exit (hQ a w hR)
 |ret=>
  intro c hc Bd w0 O0 pl0 n0 B hn0 st out st' h a w Q hR hQ
  cases c<;>simp only[Fx,Cdw] at hc
  simp only[Bq,Cdt,Cd2] at h
  obtain⟨rfl,rfl⟩:=h
  exact wp_ret (hQ a w hR)
end
section
variable {P:Program}
theorem Bp9 {α β γ:Type} (x:Sem α) (f:α→Sem β) (g:β→Sem γ): (x.bind f).bind g=x.bind (fun a=> (f a).bind g):=by
 induction x<;>simp only[Sem.bind]<;>first|rfl| (congr 1;funext y;apply_assumption) |simp_all
theorem Wq:LawfulMonad Sem:=LawfulMonad.mk' Sem (id_map:=by intro α x;show Sem.bind x _=x;induction x<;>simp only[Sem.bind]<;>first|rfl| (congr 1;funext y;apply_assumption) |simp_all) (pure_bind:=fun _ _=>rfl) (bind_assoc:=fun x f g=>Bp9 x f g)
theorem Bi5 {α:Type} {f:α→Sem Value} {w:World} : ∀ {ags:List α} {us:List Value},us.length=ags.length→(∀i x,ags[i]? =some x→(f x).run P w= .ok (us.getD i undef) w)→(ags.mapM f).run P w= .ok us w
 | [],[],_,_=>by haveI:=Wq;simp[List.mapM_nil]
 | [],_::_,h,_=>by simp at h
 |_::_,[],h,_=>by simp at h
 |a::ags,u::us,hl,h=>by
  haveI:=Wq
  have h0:=h 0 a (by simp)
  have h1:=Bi5 (ags:=ags) (us:=us) (by simpa using hl) (fun i x hx=>h (i+1) x (by simpa using hx))
  rw[List.mapM_cons,Sem.run_bind,h0]
  simp only[List.getD_cons_zero]
  show Sem.run P (List.mapM f ags>>=fun l=>pure (u::l)) w=_
  rw[Sem.run_bind,h1]
  rfl
theorem Bl2 {α:Type} {f:α→Sem Value} {ags:Array α} {us:List Value} {w:World} (hl:us.length=ags.toList.length) (h: ∀i x,ags.toList[i]? =some x→(f x).run P w= .ok (us.getD i undef) w): (ags.mapM f).run P w= .ok us.toArray w:=by
 haveI:=Wq
 rw[Array.mapM_eq_mapM_toList,map_eq_pure_bind,Sem.run_bind,Bi5 hl h]
 rfl
def Tm (P:Program):List ARes→List ResultVar→Bool
 | [],[]=>true
 | .tmp t::r, .tmp u::s=>Nat.beq t u&&Tm P r s
 | .cell t ag n::r, .cell u ty::s=>Nat.beq t u&&R8 P ty ag&&Ma P ty n&&Tm P r s
 |_,_=>false
def Bcv (vs:Array Value):Value:=if h:vs.size=1 then vs[0] else .tuple vs
variable {w:World} {pl:Pl} {Bd:Nat→Prop} {H:Hp} {env:Env} {a:Act}
def Bcu (P:Program) (a:Act) (w:World) (x:ResultVar) (u:Value):Prop:=(match x with
 | .tmp t=> (pure (a.tmps.getD t undef):Sem Value)
 | .cell c t=>do loadVar t (←asAddr (a.tmps.getD c undef))).run P w= .ok u w
theorem Bly (hH:HR w pl Bd H) (hE:RE w (Bl pl H) pl (Bc H) env a): ∀ (rs:List ARes) (xs:List ResultVar) (vs:List V),Tm P rs xs=true→Tk env H rs=some vs→
  ∃us:List Value,us.length=xs.length∧vs.length=xs.length∧(∀i x,xs[i]? =some x→Bcu P a w x (us.getD i undef))∧∀i,i<vs.length→(vs.getD i .any).ok=true→RV w (Bl pl H) pl (Bc H) (vs.getD i .any) (us.getD i undef)
 | [],[],vs,_,h=>by
  simp only[Tk,Cdt] at h;subst h
  exact⟨[],rfl,rfl,fun i x hx=>by simp at hx,fun i hi=>by simp at hi⟩
 | [],_::_,_,hc,_=>by simp[Tm] at hc
 | .tmp _::_,[],_,hc,_=>by simp[Tm] at hc
 | .cell _ _ _::_,[],_,hc,_=>by simp[Tm] at hc
 | .tmp _::_, .cell _ _::_,_,hc,_=>by simp[Tm] at hc
 | .cell _ _ _::_, .tmp _::_,_,hc,_=>by simp[Tm] at hc
 | .tmp t::rs, .tmp u::xs,vs,hc,h=>by
  simp only[Tm,Cdv] at hc
  have htu:=Cd6 hc.1
  subst htu
  simp only[Tk] at h
  split at h
  ·rename_i vs' hvs
   simp only[Cdt] at h;subst h
   obtain⟨us,h1,h2,h3,h4⟩:=Bly hH hE rs xs vs' hc.2 hvs
   refine⟨a.tmps.getD t undef::us,by simp[h1],by simp[h2],fun i x hx=> ?_,fun i hi hk=> ?_⟩
   ·cases i with
    |zero=>simp only[List.getElem?_cons_zero,Cdt] at hx;subst hx;simp[Bcu]
    |succ i=>exact h3 i x (by simpa using hx)
   ·cases i with
    |zero=>exact hE t hk
    |succ i=>exact h4 i (by simpa using hi) hk
  ·simp at h
 | .cell t ag n::rs, .cell u ty::xs,vs,hc,h=>by
  simp only[Tm,Cdv] at hc
  obtain⟨⟨⟨c1,c2⟩,c3⟩,c4⟩:=hc
  have htu:=Cd6 c1
  subst htu
  simp only[Tk] at h
  split at h
  ·rename_i p g i j hp
   split at h
   ·rename_i cs hcs
    split at h
    ·rename_i v vs' hv hvs
     simp only[Cdt] at h;subst h
     obtain⟨us,h1,h2,h3,h4⟩:=Bly hH hE rs xs vs' c4 hvs
     have hu:=hE t (by rw[hp];rfl)
     rw[hp] at hu
     obtain⟨b,off,uc,hue,hrc,hn,hk⟩:=Bh3 hH hcs hu
     obtain⟨x,hrun,hrv⟩:=Tn c2 c3 hn hk hrc hv
     refine⟨x::us,by simp[h1],by simp[h2],fun i y hy=> ?_,fun i hi hk=> ?_⟩
     ·cases i with
      |zero=>simp only[List.getElem?_cons_zero,Cdt] at hy;subst hy;simp[Bcu,hue,asAddr,hrun]
      |succ i=>exact h3 i y (by simpa using hy)
     ·cases i with
      |zero=>exact hrv
      |succ i=>exact h4 i (by simpa using hi) hk
    ·simp at h
   ·simp at h
  ·simp at h
theorem Bi6 {fn:Func} {us:List Value} (hl:us.length=fn.results.toList.length) (h: ∀i x,fn.results.toList[i]? =some x→Bcu P a w x (us.getD i undef)): (results fn a.tmps).run P w= .ok (Bcv us.toArray) w:=by
 unfold results
 rw[Sem.run_bind,Bl2 hl (fun i x hx=>by
  have:=h i x hx
  unfold Bcu at this
  exact this)]
 rfl
theorem Bo3 {n:Nat} {v v':V} (h:fzV n H v=some v'):v.ok=true:=by
 cases v<;>first|rfl| (simp[fzV,fzA,Yz,fz,Pb] at h)
theorem Bt4 {O:Gz} {n:Nat} {ws:List V} {us:List Value} (hl:us.length=ws.length) (h: ∀i,i<ws.length→RV w O pl n (ws.getD i .any) (us.getD i undef)):RV w O pl n (Bc9 ws) (Bcv us.toArray):=by
 match ws,us,hl,h with
 | [v],[u],_,h=>simpa[Bc9,Bcv] using h 0 (by simp)
 | [],[],_,h=>exact .tup _ _ rfl (fun i hi=>by simp at hi)
 |v::v2::vs,us,hl,h=>
  have:us.length≠1:=by simp at hl;omega
  have h1:Bcv us.toArray= .tuple us.toArray:=by simp[Bcv,this]
  rw[h1]
  refine .tup _ _ (by simpa using hl) fun i hi=> ?_
  have:=h i hi
  simpa[Cda] using this
structure OwnInv (w:World) (pl0:Pl) (H0:Hp) (n:Nat) (H:Hp) (plb:Pl) (Bd:Nat→Prop) (base:Hp):Prop where
 obj: ∀r o,Cc base r=some o→OR w (Bl pl0 H0) plb (Bc base) r o
 inj: ∀r r' b,Gq plb base r=some b→Gq plb base r'=some b→r=r'
 bd: ∀m,Bd m→∀r o,r<m→Cc base r=some o→OR w (Bl pl0 H0) plb m r o
 bdle: ∀m,Bd m→m≤n
 le:n≤Bc base
 ple:PlExt n pl0 plb
 same: ∀r o,Cc H r=some o→o= .dead∨Cc H0 r=some o
 own: ∀b,Bl plb base b→Bl pl0 H0 b
 apart: ∀r b,n≤r→Gq pl0 H r=some b→¬Bl plb base b
theorem OwnInv.ext {pl0:Pl} {H0:Hp} {n:Nat} {plb:Pl} {base:Hp} (h:OwnInv w pl0 H0 n H plb Bd base):Ext w (Bl pl0 H0) w (Bl plb base):=
 ⟨rfl,rfl,rfl,Cd7 _,fun b _ hO=> ⟨rfl,fun hb=>hO (h.own b hb)⟩⟩
theorem OwnInv.hr {pl0:Pl} {H0:Hp} {n:Nat} {plb:Pl} {base:Hp} (h:OwnInv w pl0 H0 n H plb Bd base):HR w plb Bd base:=
 ⟨fun r o ho=> (h.obj r o ho).mono h.ext (PlExt.refl _ _) (Cd7 _) rfl (fun _ _ _ _ _=>rfl),h.inj,fun m hm r o hr ho=> (h.bd m hm r o hr ho).mono h.ext (PlExt.refl _ _) (Cd7 _) rfl (fun _ _ _ _ _=>rfl),
  fun m hm=>Nat.le_trans (h.bdle m hm) h.le⟩
structure OwnTo (w:World) (pl0:Pl) (H0:Hp) (n:Nat) (plb:Pl) (Bd:Nat→Prop) (base:Hp) (H':Hp) (plb':Pl) (base':Hp):Prop where
 inv:OwnInv w pl0 H0 n H' plb' Bd base'
 ple:PlExt (Bc base) plb plb'
 le:Bc base≤Bc base'
theorem Bic {pl0:Pl} {H0:Hp} {n:Nat} {B0:Nat→Prop} (hH0:HR w pl0 B0 H0) {plb:Pl} {base:Hp} (hI:OwnInv w pl0 H0 n H plb Bd base) {r g e b c:Nat} {xs ys:List V} {arr:Array Value} {ty:TypeId} {fr:Nat×Nat} (hge:n≤r) (hgr:Cc H r=some (.row g e xs)) (hg0:Cc H0 r=some (.row g e xs))
  (hp:pl0 r g=some (b,e,c)) (hh:w.heap[b]? =some (.cells arr ty fr)) (hsa:arr.size=c*e) (hf:Ms fr arr.size) (hyc:ys.length≤c) (hye: ∀i,i<ys.length→(ys.getD i .any).cells.length=e)
  (hyr: ∀i j,i<ys.length→j<e→RV w (Bl pl0 H0) plb (Bc base) ((ys.getD i .any).cells.getD j .any) (arr.getD (i*e+j) undef)) (h1: ∀i j,i<ys.length→j<e→(arr.getD (i*e+j) undef).oneCell'=true):
  OwnTo w pl0 H0 n plb Bd base (Bw H r .dead) (Ku plb (Bc base) (b,e,c)) (Bp base (.row 0 e ys)):=by
 have hbl0:Gq pl0 H0 r=some b:=by simp[Gq,hg0,hp]
 have hbl:Gq pl0 H r=some b:=by simp[Gq,hgr,hp]
 have hnb: ¬Bl plb base b:=hI.apart r b hge hbl
 have hbn:Gq (Ku plb (Bc base) (b,e,c)) (Bp base (.row 0 e ys)) (Bc base)=some b:=by simp[Gq,Co,G7]
 have hcase: ∀r' b',Gq (Ku plb (Bc base) (b,e,c)) (Bp base (.row 0 e ys)) r'=some b'→(r'=Bc base∧b'=b)∨(r'<Bc base∧Gq plb base r'=some b'):=by
  intro r' b' hr'
  rcases Nat.lt_trichotomy r' (Bc base) with hlt|heq|hgt
  ·exact .inr ⟨hlt,by rwa[Zi hlt] at hr'⟩
  ·subst heq;rw[hbn] at hr';exact .inl ⟨rfl,by simpa using hr'.symm⟩
  ·obtain⟨o',ho'⟩:=Qc hr'
   have:=Fu ho'
   rw[Cf] at this
   omega
 have hpl:PlExt (Bc base) plb (Ku plb (Bc base) (b,e,c)):=fun r hr g p hp=>by rw[Ld (by omega)];exact hp
 have hle:=hI.le
 have hkill: ∀r' b',Gq pl0 (Bw H r .dead) r'=some b'→r'≠r∧Gq pl0 H r'=some b':=by
  intro r' b' hb
  by_cases hne:r'=r
  ·subst hne
   obtain⟨o,ho⟩:=Qc hb
   have:=Fu ho
   rw[Bt] at this
   unfold Gq at hb
   rw[Cn _ this] at hb
   simp at hb
  ·refine⟨hne, ?_⟩
   unfold Gq at hb⊢
   rwa[F5 _ hne] at hb
 refine⟨⟨?_, ?_, ?_,hI.bdle,by rw[Cf];omega,hI.ple.trans (hpl.le hle), ?_, ?_, ?_⟩,hpl,by rw[Cf];omega⟩
 ·intro r' o ho
  have hlt:=Fu ho
  rw[Cf] at hlt⊢
  rcases Nat.lt_or_eq_of_le (Nat.lt_succ_iff.1 hlt) with hlt'|heq
  ·rw[Da _ hlt'] at ho
   exact(hI.obj r' o ho).mono (Ext.refl _ _) hpl (by omega) (by rw[Ld (by omega)]) (fun _ _ _ _ _=>rfl)
  ·subst heq
   rw[Co] at ho
   obtain rfl:=Option.some.inj ho
   refine .row 0 e ys b c arr ty fr (G7 ..) hh hsa hf hyc hye (fun i' j hi hj=> ?_) h1 (fun g' hg'=> ?_)
   ·exact(hyr i' j hi hj).mono (Ext.refl _ _) hpl (by omega)
   ·show(if Bc base=Bc base then(if g'=0 then some (b,e,c) else none) else plb (Bc base) g')=none
    rw[if_pos rfl,if_neg (by omega)]
 ·intro r1 r2 b1 k1 k2
  rcases hcase _ _ k1 with⟨x1,y1⟩ | ⟨x1,y1⟩<;>rcases hcase _ _ k2 with⟨x2,y2⟩ | ⟨x2,y2⟩
  ·omega
  ·exact absurd ⟨r2,by rw[y2,y1]⟩ hnb
  ·exact absurd ⟨r1,by rw[y1,y2]⟩ hnb
  ·exact hI.inj r1 r2 b1 y1 y2
 ·intro m hm r' o hr' ho
  have hmn:=hI.bdle m hm
  rw[Da _ (by omega)] at ho
  exact(hI.bd m hm r' o hr' ho).mono (Ext.refl _ _) (hpl.le (by omega)) (Cd7 _) (by rw[Ld (by omega)]) (fun _ _ _ _ _=>rfl)
 ·intro r' o ho
  by_cases hne:r'=r
  ·subst hne
   have:=Fu ho
   rw[Bt] at this
   rw[Cn _ this] at ho
   exact .inl (by simpa using ho.symm)
  ·rw[F5 _ hne] at ho
   exact hI.same r' o ho
 ·rintro b' ⟨r',hr'⟩
  rcases hcase _ _ hr' with⟨x1,rfl⟩ | ⟨x1,y1⟩
  ·exact⟨r,hbl0⟩
  ·exact hI.own b' ⟨r',y1⟩
 ·rintro r' b' hn hb' ⟨r2,hr2⟩
  obtain⟨hne,hb2⟩:=hkill r' b' hb'
  rcases hcase _ _ hr2 with⟨x1,rfl⟩ | ⟨x1,y1⟩
  ·obtain⟨o,ho⟩:=Qc hb2
   rcases hI.same r' o ho with rfl|h0
   ·simp[Gq,ho] at hb2
   ·have:Gq pl0 H0 r'=some b':=by
     unfold Gq at hb2⊢
     rw[ho] at hb2
     rw[h0];exact hb2
    exact hne (hH0.inj r' r b' this hbl0)
  ·exact hI.apart r' b' hn hb2 ⟨r2,y1⟩
theorem Bib {pl0:Pl} {H0:Hp} {n:Nat} {B0:Nat→Prop} (hH0:HR w pl0 B0 H0) {plb:Pl} {base:Hp} (hI:OwnInv w pl0 H0 n H plb Bd base) {r g e:Nat} {xs:List V} {ds:List D} (hge:n≤r) (hrow:C8 H r g=some (e,xs)) (hds:Gr xs=some ds):
  ∃b c,pl0 r g=some (b,e,c)∧OwnTo w pl0 H0 n plb Bd base (Bw H r .dead) (Ku plb (Bc base) (b,e,c)) (Bp base (.row 0 e xs)):=by
 have hxs:=Kc hds
 have hgr:=Jp hrow
 rcases hI.same r _ hgr with hd|hg0
 ·simp at hd
 obtain⟨b,c,arr,ty,fr,hp,hh,hsa,hf,hxc,he,hr,h1,_⟩:=Jb hH0 (show C8 H0 r g=some (e,xs) by simp[C8,hg0])
 refine⟨b,c,hp,Bic hH0 hI hge hgr hg0 hp hh hsa hf hxc he (fun i' j hi hj=> ?_) h1⟩
 have:=hr i' j hi hj
 subst hxs
 have hi':i'<ds.length:=by simpa using hi
 have hel:=he i' hi
 rw[Dh ds i' hi',Lm] at hel
 rw[List.length_map] at hel
 rw[Bkv hi' (by omega)] at this⊢
 exact .d _ _ this.dd
theorem Bno {pl0:Pl} {H0:Hp} {n:Nat} {B0:Nat→Prop} (hH0:HR w pl0 B0 H0) {plb:Pl} {base:Hp} (hI:OwnInv w pl0 H0 n H plb Bd base) {v v':V} {H' base':Hp} (h:Wn n H base v=some (v',H',base')) {u:Value} (hu:RV w (Bl pl0 H0) pl0 (Bc H0) v u):
  ∃plb',OwnTo w pl0 H0 n plb Bd base H' plb' base'∧RV w (Bl pl0 H0) plb' (Bc base') v' u:=by
 have hle:=hI.le
 unfold Wn at h
 split at h
 ·simp only[Cdt,Cd2] at h
  obtain⟨rfl,rfl,rfl⟩:=h
  exact⟨plb,⟨hI,PlExt.refl _ _,Cd7 _⟩, .d _ _ hu.dd⟩
 ·simp only[Cdt,Cd2] at h
  obtain⟨rfl,rfl,rfl⟩:=h
  refine⟨plb,⟨hI,PlExt.refl _ _,Cd7 _⟩, ?_⟩
  cases hu with
  |nils=>exact .nils _ _
 ·rename_i r g i k
  split at h
  ·rename_i hlt
   simp only[Cdt,Cd2] at h
   obtain⟨rfl,rfl,rfl⟩:=h
   refine⟨plb,⟨hI,PlExt.refl _ _,Cd7 _⟩, ?_⟩
   cases hu with
   |slc _ _ _ _ b e c _ hp hk=>exact .slc _ _ _ _ b e c (by omega) (hI.ple r hlt g _ hp) hk
   |slc0 _ _ _ A cap hi _=>exact .slc0 _ _ _ A cap hi (by omega)
  ·rename_i hge
   split at h
   ·rename_i e xs hrow
    split at h
    ·rename_i ds hds
     simp only[Cdt,Cd2] at h
     obtain⟨rfl,rfl,rfl⟩:=h
     obtain⟨b,c,hp,ht⟩:=Bib hH0 hI (by omega) hrow hds
     refine⟨_,ht, ?_⟩
     cases hu with
     |slc _ _ _ _ b2 e2 c2 hr2 hp2 hk=>
      rw[hp] at hp2
      simp only[Cdt,Cd2] at hp2
      obtain⟨rfl,rfl,rfl⟩:=hp2
      exact .slc _ _ _ _ b e c (by rw[Cf];omega) (G7 ..) hk
     |slc0 _ _ _ A cap hi _=>omega
    ·simp at h
   ·simp at h
 ·rename_i r g i k
  split at h
  ·rename_i hlt
   simp only[Cdt,Cd2] at h
   obtain⟨rfl,rfl,rfl⟩:=h
   refine⟨plb,⟨hI,PlExt.refl _ _,Cd7 _⟩, ?_⟩
   cases hu with
   |ptr _ _ _ _ b e c _ hp=>exact .ptr _ _ _ _ b e c (by omega) (hI.ple r hlt g _ hp)
  ·rename_i hge
   split at h
   ·rename_i e xs hrow
    split at h
    ·rename_i ds hds
     simp only[Cdt,Cd2] at h
     obtain⟨rfl,rfl,rfl⟩:=h
     obtain⟨b,c,hp,ht⟩:=Bib hH0 hI (by omega) hrow hds
     refine⟨_,ht, ?_⟩
     cases hu with
     |ptr _ _ _ _ b2 e2 c2 hr2 hp2=>
      rw[hp] at hp2
      simp only[Cdt,Cd2] at hp2
      obtain⟨rfl,rfl,rfl⟩:=hp2
      exact .ptr _ _ _ _ b e c (by rw[Cf];omega) (G7 ..)
    ·simp at h
   ·simp at h
 ·simp at h
theorem Bh9 {n:Nat} {base:Hp} {v:V} {r:V×Hp×Hp} (h:Wn n H base v=some r):r.1.sto=true:=by
 unfold Wn at h
 split at h
 ·simp only[Cdt] at h;subst h;rfl
 ·simp only[Cdt] at h;subst h;rfl
 ·split at h
  ·simp only[Cdt] at h;subst h;rfl
  ·split at h
   ·split at h
    ·simp only[Cdt] at h;subst h;rfl
    ·simp at h
   ·simp at h
 ·split at h
  ·simp only[Cdt] at h;subst h;rfl
  ·split at h
   ·split at h
    ·simp only[Cdt] at h;subst h;rfl
    ·simp at h
   ·simp at h
 ·simp at h
structure OwnOk (w:World) (pl0:Pl) (H0:Hp) (n:Nat) (Bd:Nat→Prop) (f:Hp→Hp→V→Option (V×Hp×Hp)):Prop where
 ok: ∀ {H plb base v v' H' base' u},OwnInv w pl0 H0 n H plb Bd base→f H base v=some (v',H',base')→RV w (Bl pl0 H0) pl0 (Bc H0) v u→∃plb',OwnTo w pl0 H0 n plb Bd base H' plb' base'∧RV w (Bl pl0 H0) plb' (Bc base') v' u
 sto: ∀ {H base v r},f H base v=some r→r.1.sto=true
 known: ∀ {H base v r},f H base v=some r→v.ok=true
theorem Bk7 {pl0:Pl} {H0:Hp} {n:Nat} {B0:Nat→Prop} (hH0:HR w pl0 B0 H0):OwnOk w pl0 H0 n Bd (Wn n):=
 ⟨fun hI h hu=>Bno hH0 hI h hu,fun h=>Bh9 h,fun {H base v r} h=>by cases v<;>first|rfl| (simp[Wn] at h)⟩
theorem OwnTo.refl {pl0:Pl} {H0:Hp} {n:Nat} {plb:Pl} {base:Hp} (h:OwnInv w pl0 H0 n H plb Bd base):OwnTo w pl0 H0 n plb Bd base H plb base:=⟨h,PlExt.refl _ _,Cd7 _⟩
theorem OwnTo.trans {pl0:Pl} {H0:Hp} {n:Nat} {plb:Pl} {base H1 base1 H2 base2:Hp} {plb1 plb2:Pl} (h:OwnTo w pl0 H0 n plb Bd base H1 plb1 base1) (k:OwnTo w pl0 H0 n plb1 Bd base1 H2 plb2 base2):OwnTo w pl0 H0 n plb Bd base H2 plb2 base2:=
 ⟨k.inv,h.ple.trans (k.ple.le h.le),Nat.le_trans h.le k.le⟩
theorem Bia {pl0:Pl} {H0:Hp} {n:Nat} {f:Hp→Hp→V→Option (V×Hp×Hp)} (hf:OwnOk w pl0 H0 n Bd f): ∀ (vs:List V) (us:List Value) (H:Hp) (plb:Pl) (base:Hp) (ws:List V) (H' base':Hp),OwnInv w pl0 H0 n H plb Bd base→Bcd f H base vs=some (ws,H',base')→us.length=vs.length→
  (∀i,i<vs.length→RV w (Bl pl0 H0) pl0 (Bc H0) (vs.getD i .any) (us.getD i undef))→
  ∃plb',OwnTo w pl0 H0 n plb Bd base H' plb' base'∧ws.length=vs.length∧∀i,i<ws.length→RV w (Bl pl0 H0) plb' (Bc base') (ws.getD i .any) (us.getD i undef)
 | [],us,H,plb,base,ws,H',base',hI,h,hl,hu=>by
  simp only[Bcd,Cdt,Cd2] at h
  obtain⟨rfl,rfl,rfl⟩:=h
  exact⟨plb, .refl hI,rfl,fun i hi=>by simp at hi⟩
 |v::vs,[],H,plb,base,ws,H',base',hI,h,hl,hu=>by simp at hl
 |v::vs,u::us,H,plb,base,ws,H',base',hI,h,hl,hu=>by
  simp only[Bcd] at h
  split at h
  ·rename_i x H1 base1 h1
   obtain⟨plb1,t1,r1⟩:=hf.ok hI h1 (hu 0 (by simp))
   split at h
   ·rename_i xs H2 base2 h2
    simp only[Cdt,Cd2] at h
    obtain⟨rfl,rfl,rfl⟩:=h
    obtain⟨plb2,t2,l2,r2⟩:=Bia hf vs us H1 plb1 base1 xs H2 base2 t1.inv h2 (by simpa using hl) (fun i hi=>hu (i+1) (by simpa using hi))
    refine⟨plb2,t1.trans t2,by simp[l2],fun i hi=> ?_⟩
    cases i with
    |zero=>exact r1.mono (Ext.refl _ _) t2.ple t2.le
    |succ i=>exact r2 i (by simpa using hi)
   ·simp at h
  ·simp at h
theorem Bpc (cs:List V): (Mw cs).sto=true:=by
 unfold Mw
 split<;>rfl
theorem Bs4 {pl0:Pl} {H0:Hp} {n:Nat} {f:Hp→Hp→V→Option (V×Hp×Hp)} (hf:OwnOk w pl0 H0 n Bd f):OwnOk w pl0 H0 n Bd (Zu f):=by
 refine⟨fun {H plb base v v' H' base' u} hI h hu=> ?_,fun {H base v r} h=> ?_,fun {H base v r} h=> ?_⟩
 ·unfold Zu at h
  split at h
  ·rename_i cs
   split at h
   ·rename_i ys H1 base1 h1
    simp only[Cdt,Cd2] at h
    obtain⟨rfl,rfl,rfl⟩:=h
    cases hu with
    |agg _ us hl ho hr=>
     obtain⟨plb',t,l,r⟩:=Bia hf cs us.toList H plb base ys _ _ hI h1 (by simpa using hl) (fun i hi=>by
      have:=hr i hi
      simpa[Cda,Cd3] using this)
     refine⟨plb',t,RCs.mkAgg ⟨by omega,fun i hi=> ?_,fun i hi=>ho i (by omega)⟩⟩
     have:=r i hi
     simpa[Cda,Cd3] using this
   ·simp at h
  ·exact hf.ok hI h hu
 ·unfold Zu at h
  split at h
  ·split at h
   ·simp only[Cdt] at h;subst h;exact Bpc _
   ·simp at h
  ·exact hf.sto h
 ·unfold Zu at h
  split at h
  ·rfl
  ·exact hf.known h
theorem Bce {pl0:Pl} {H0:Hp} {n:Nat} {f:Hp→Hp→V→Option (V×Hp×Hp)} (hf:OwnOk w pl0 H0 n Bd f): ∀ (vs:List V) (us:List Value) (H:Hp) (plb:Pl) (base:Hp) (ws:List V) (H' base':Hp),OwnInv w pl0 H0 n H plb Bd base→Zv f H base vs=some (ws,H',base')→us.length=vs.length→
  (∀i,i<vs.length→(vs.getD i .any).ok=true→RV w (Bl pl0 H0) pl0 (Bc H0) (vs.getD i .any) (us.getD i undef))→
  ∃plb',OwnTo w pl0 H0 n plb Bd base H' plb' base'∧ws.length=vs.length∧∀i,i<ws.length→(ws.getD i .any).sto=true∧RV w (Bl pl0 H0) plb' (Bc base') (ws.getD i .any) (us.getD i undef)
 | [],us,H,plb,base,ws,H',base',hI,h,hl,hu=>by
  simp only[Zv,Cdt,Cd2] at h
  obtain⟨rfl,rfl,rfl⟩:=h
  exact⟨plb, .refl hI,rfl,fun i hi=>by simp at hi⟩
 |v::vs,[],H,plb,base,ws,H',base',hI,h,hl,hu=>by simp at hl
 |v::vs,u::us,H,plb,base,ws,H',base',hI,h,hl,hu=>by
  simp only[Zv] at h
  split at h
  ·rename_i x H1 base1 h1
   have hE:=Bs4 hf
   obtain⟨plb1,t1,r1⟩:=hE.ok hI h1 (hu 0 (by simp) (hE.known h1))
   have s1:=hE.sto h1
   split at h
   ·rename_i xs H2 base2 h2
    simp only[Cdt,Cd2] at h
    obtain⟨rfl,rfl,rfl⟩:=h
    obtain⟨plb2,t2,l2,r2⟩:=Bce hf vs us H1 plb1 base1 xs H2 base2 t1.inv h2 (by simpa using hl) (fun i hi=>hu (i+1) (by simpa using hi))
    refine⟨plb2,t1.trans t2,by simp[l2],fun i hi=> ?_⟩
    cases i with
    |zero=>exact⟨s1,r1.mono (Ext.refl _ _) t2.ple t2.le⟩
    |succ i=>exact r2 i (by simpa using hi)
   ·simp at h
  ·simp at h
theorem Bko {O:Gz} {pl:Pl} {n e:Nat} {x:V} {us:Array Value} (hrc:RCs w O pl n x.cells us) (he:x.cells.length=e): ∃u,RV w O pl n x u∧u.cells=us:=by
 by_cases hag:x.isAgg=true
 ·refine⟨.agg us, ?_,rfl⟩
  cases x<;>simp[V.isAgg] at hag
  ·rename_i y;cases y<;>simp[V.isAgg] at hag
   rename_i cs
   refine .d _ _ (.agg cs us (by simpa[V.cells] using hrc.size) (fun l hl=>hrc.one l (by simpa[V.cells] using hl)) fun l hl=> ?_)
   have:=hrc.rel l (by simpa[V.cells] using hl)
   simp only[V.cells] at this
   rw[Dh cs l hl] at this
   exact this.dd
  ·rename_i cs
   exact .agg cs us hrc.size hrc.one hrc.rel
 ·have hag':x.isAgg=false:=by simpa using hag
  have hc1:=Q9 hag'
  have hrv:=hrc.rel 0 (by rw[hc1];simp)
  have hone:=hrc.one 0 (by rw[hc1];simp)
  have hsz:=hrc.size
  rw[hc1] at hrv hsz
  simp only[List.getD_cons_zero] at hrv
  refine⟨us.getD 0 undef,hrv, ?_⟩
  have hus: (us.getD 0 undef).cells= #[us.getD 0 undef]:=by
   generalize us.getD 0 undef=q at hone
   cases q<;>first|rfl|simp[Value.oneCell'] at hone
  rw[hus]
  apply Array.ext
  ·simpa using hsz.symm
  ·intro i h1 h2
   have:i=0:=by simpa using h1
   subst this
   simp[Cd3,h2]
theorem Bbz {pl0:Pl} {H0:Hp} {n:Nat} {B0:Nat→Prop} (hH0:HR w pl0 B0 H0) {f:Hp→Hp→V→Option (V×Hp×Hp)} (hf:OwnOk w pl0 H0 n Bd f):OwnOk w pl0 H0 n Bd (Ux n f):=by
 refine⟨fun {H plb base v v' H' base' u} hI h hu=> ?_,fun {H base v r} h=> ?_,fun {H base v r} h=> ?_⟩
 ·unfold Ux at h
  split at h
  ·rename_i r0 h1
   simp only[Cdt] at h
   subst h
   exact Bno hH0 hI h1 hu
  ·split at h
   ·rename_i r g k hno
    split at h
    ·simp at h
    ·rename_i hge
     split at h
     ·rename_i e xs hrow
      split at h
      ·rename_i ys H1 base1 hes
       split at h
       ·rename_i p hrow1
        simp only[Cdt,Cd2] at h
        obtain⟨rfl,rfl,rfl⟩:=h
        have hgr:=Jp hrow
        rcases hI.same r _ hgr with hd|hg0
        ·simp at hd
        obtain⟨b,c,arr,ty,fr,hp,hh,hsa,hfz,hxc,he,hr,h1,_⟩:=Jb hH0 (show C8 H0 r g=some (e,xs) by simp[C8,hg0])
        have hel: ∀i,i<xs.length→∃u,RV w (Bl pl0 H0) pl0 (Bc H0) (xs.getD i .any) u∧u.cells.size=e∧∀j,j<e→u.cells.getD j undef=arr.getD (i*e+j) undef:=by
         intro i hi
         let us:Array Value:=((List.range e).map fun l=>arr.getD (i*e+l) undef).toArray
         have husg: ∀l,l<e→us.getD l undef=arr.getD (i*e+l) undef:=fun l hl=>by
          have hsz:l<us.size:=by simp[us,hl]
          rw[Cd3,Array.getElem?_eq_getElem hsz]
          simp[us]
         have hce:=he i hi
         have hrc:RCs w (Bl pl0 H0) pl0 (Bc H0) (xs.getD i .any).cells us:=⟨by rw[hce];simp[us],fun l hl=>by rw[husg l (by omega)];exact hr _ _ hi (by omega),fun l hl=>by rw[husg l (by omega)];exact h1 _ _ hi (by omega)⟩
         obtain⟨u,hu1,hu2⟩:=Bko hrc hce
         exact⟨u,hu1,by rw[hu2];simp[us],fun j hj=>by rw[hu2];exact husg j hj⟩
        let uv:List Value:=(List.range xs.length).map fun i=>if h:i<xs.length then(hel i h).choose else undef
        have huv: ∀i,i<xs.length→∃u,uv.getD i undef=u∧RV w (Bl pl0 H0) pl0 (Bc H0) (xs.getD i .any) u∧u.cells.size=e∧∀j,j<e→u.cells.getD j undef=arr.getD (i*e+j) undef:=by
         intro i hi
         refine⟨(hel i hi).choose, ?_,(hel i hi).choose_spec⟩
         simp[uv,Cda,hi]
        obtain⟨plb1,t1,l1,r1⟩:=Bce hf xs uv H plb base ys H1 base1 hI hes (by simp[uv]) (fun i hi _=>by
         obtain⟨u,e1,e2,_⟩:=huv i hi
         rw[e1];exact e2)
        have hI1:=t1.inv
        obtain⟨e',xs'⟩:=p
        have hgr1:=Jp hrow1
        rcases hI1.same r _ hgr1 with hd|hg1
        ·simp at hd
        rw[hg0] at hg1
        simp only[Cdt,Obj.row.injEq,true_and] at hg1
        obtain⟨rfl,rfl⟩:=hg1
        have t2:=Bic hH0 hI1 (ys:=ys) (by omega) hgr1 hg0 hp hh hsa hfz (by omega) (fun i hi=>by
          obtain⟨u,e1,e2,e3,e4⟩:=huv i (by omega)
          obtain⟨s1,s2⟩:=r1 i hi
          have:=(s2.cells s1).size
          rw[e1] at this
          omega) (fun i j hi hj=>by
          obtain⟨u,e1,e2,e3,e4⟩:=huv i (by omega)
          obtain⟨s1,s2⟩:=r1 i hi
          have hc:=s2.cells s1
          rw[e1] at hc
          have:=hc.rel j (by have:=hc.size;omega)
          rwa[e4 j hj] at this) (fun i j hi hj=>h1 i j (by omega) hj)
        refine⟨_,t1.trans t2, ?_⟩
        cases hu with
        |slc _ _ _ _ b2 e2 c2 hr2 hp2 hk=>
         rw[hp] at hp2
         simp only[Cdt,Cd2] at hp2
         obtain⟨rfl,rfl,rfl⟩:=hp2
         exact .slc _ _ _ _ b e c (by rw[Cf];omega) (G7 ..) hk
        |slc0 _ _ _ A cap hi _=>omega
       ·simp at h
      ·simp at h
     ·simp at h
   ·simp at h
 ·unfold Ux at h
  split at h
  ·rename_i r0 h1
   simp only[Cdt] at h
   subst h
   exact Bh9 h1
  ·split at h
   ·split at h
    ·simp at h
    ·split at h
     ·split at h
      ·split at h
       ·simp only[Cdt] at h;subst h;rfl
       ·simp at h
      ·simp at h
     ·simp at h
   ·simp at h
 ·cases v<;>first|rfl| (simp[Ux,Wn] at h)
theorem Bxr {pl0:Pl} {H0:Hp} {n:Nat} {B0:Nat→Prop} (hH0:HR w pl0 B0 H0) (vs:List V) (us:List Value) (H:Hp) (plb:Pl) (base:Hp) (ws:List V) (H' base':Hp) (hI:OwnInv w pl0 H0 n H plb Bd base) (h:B1b n H base vs=some (ws,H',base')) (hl:us.length=vs.length)
  (hu: ∀i,i<vs.length→(vs.getD i .any).ok=true→RV w (Bl pl0 H0) pl0 (Bc H0) (vs.getD i .any) (us.getD i undef)):
  ∃plb',OwnTo w pl0 H0 n plb Bd base H' plb' base'∧ws.length=vs.length∧∀i,i<ws.length→RV w (Bl pl0 H0) plb' (Bc base') (ws.getD i .any) (us.getD i undef):=by
 obtain⟨plb',t,l,r⟩:=Bce (Bbz hH0 (Bbz hH0 (Bbz hH0 (Bk7 hH0)))) vs us H plb base ws H' base' hI h hl hu
 exact⟨plb',t,l,fun i hi=> (r i hi).2⟩
theorem OwnInv.start {pl0:Pl} {H0:Hp} {n:Nat} {B0:Nat→Prop} (hH0:HR w pl0 B0 H0) (hn:B0 n) (hB: ∀m,Bd m→B0 m∧m≤n):OwnInv w pl0 H0 n H0 pl0 Bd (Cx H0 n):=by
 have hle:=hH0.le n hn
 have hbk: ∀r' b,Gq pl0 (Cx H0 n) r'=some b→r'<n∧Gq pl0 H0 r'=some b:=by
  intro r' b hb
  obtain⟨o,ho⟩:=Qc hb
  obtain⟨hlt,ho'⟩:=Gs ho
  refine⟨hlt, ?_⟩
  unfold Gq at hb⊢
  rwa[Ro hlt] at hb
 refine⟨fun r o ho=> ?_,fun r1 r2 b k1 k2=>hH0.inj r1 r2 b (hbk _ _ k1).2 (hbk _ _ k2).2,fun m hm r o hr ho=> ?_,fun m hm=> (hB m hm).2,by rw[F6 hle];omega,PlExt.refl _ _,fun r o ho=> .inr ho,fun b ⟨r,hr⟩=> ⟨r,(hbk _ _ hr).2⟩,fun r b hr hb ⟨r',hr'⟩=> ?_⟩
 ·obtain⟨hlt,ho'⟩:=Gs ho
  rw[F6 hle]
  exact hH0.bd n hn r o hlt ho'
 ·obtain⟨_,ho'⟩:=Gs ho
  exact hH0.bd m (hB m hm).1 r o hr ho'
 ·obtain⟨hlt,h2⟩:=hbk _ _ hr'
  have:=hH0.inj r r' b hb h2
  omega
end
theorem Zz {f:St→Option (Out×St)} {lv:List Nat} : ∀ {n:Nat} {st:St} {r:Out×St},G9 f lv n st=some r→G9 f lv (n+1) st=some r
 |0,_,_,h=>by simp[G9] at h
 |n+1,st,r,h=>by
  rw[G9] at h⊢
  cases hf:f ⟨st.env.keep lv,st.hp⟩ with
  |none=>rw[hf] at h;simp at h
  |some p=>
   obtain⟨o,s⟩:=p
   rw[hf] at h
   cases o with
   |normal=>exact Zz h
   |exit id=>exact h
   |ret=>exact h
theorem Be2 {f:St→Option (Out×St)} {lv:List Nat} {n m:Nat} (hm:n≤m) {st:St} {r:Out×St} (h:G9 f lv n st=some r):G9 f lv m st=some r:=by
 induction hm with
 |refl=>exact h
 |step _ ih=>exact Zz ih
open Classical in
noncomputable def Bg (f:St→Option (Out×St)) (lv:List Nat) (st:St):Option (Out×St):=
 if h: ∃r,∃n,G9 f lv n st=some r then some h.choose else none
theorem Jk {f:St→Option (Out×St)} {lv:List Nat} {st:St} {r:Out×St} :Bg f lv st=some r↔∃n,G9 f lv n st=some r:=by
 unfold Bg
 constructor
 ·intro h
  split at h
  ·rename_i hx
   simp only[Cdt] at h
   rw[←h];exact hx.choose_spec
  ·simp at h
 ·rintro⟨n,hn⟩
  have hx: ∃r,∃n,G9 f lv n st=some r:=⟨r,n,hn⟩
  rw[dif_pos hx]
  obtain⟨m,hm⟩:=hx.choose_spec
  have h1:=Be2 (Nat.le_max_left n m) hn
  have h2:=Be2 (Nat.le_max_right n m) hm
  rw[h1] at h2
  exact h2.symm
theorem Bv (f:St→Option (Out×St)) (lv:List Nat) (st:St):Bg f lv st=(match f ⟨st.env.keep lv,st.hp⟩ with
  |some (.normal,st')=>Bg f lv st'
  |r=>r):=by
 cases hf:f ⟨st.env.keep lv,st.hp⟩ with
 |none=>
  cases he:Bg f lv st with
  |none=>rfl
  |some r=>
   obtain⟨n,hn⟩:=Jk.1 he
   cases n<;>simp[G9,hf] at hn
 |some p=>
  obtain⟨o,s⟩:=p
  cases o with
  |normal=>
   simp only
   cases he:Bg f lv s with
   |none=>
    cases he':Bg f lv st with
    |none=>rfl
    |some r=>
     obtain⟨n,hn⟩:=Jk.1 he'
     cases n with
     |zero=>simp[G9] at hn
     |succ n=>
      simp only[G9,hf] at hn
      have:=Jk.2 ⟨n,hn⟩
      rw[he] at this
      simp at this
   |some r=>
    obtain⟨n,hn⟩:=Jk.1 he
    exact Jk.2 ⟨n+1,by simp only[G9,hf];exact hn⟩
  |exit id=>exact Jk.2 ⟨1,by simp only[G9,hf]⟩
  |ret=>exact Jk.2 ⟨1,by simp only[G9,hf]⟩
theorem Bdz:B2s Bg:=fun _ _ _ _ h=>Jk.1 h
def CLe (cl cl':D6):Prop:=∀k args H r,cl k args H=some r→cl' k args H=some r
section
variable {cl cl':D6} (hle:CLe cl cl') {G:Gi} {n0:Bn}
theorem Bdn {k:Nat} {args:List V} {v:V} (hle:CLe cl cl') (h:Be cl k args=some v):Be cl' k args=some v:=
 Bb fun H=>hle _ _ _ _ (Dr h H)
theorem Bcl {k:Nat} {args:List V} {v:V} (hle:CLe cl cl') (h:F9 cl k args=some v):F9 cl' k args=some v:=
 Jh fun H=>by
  obtain⟨v1,H2,h1,h2,h3⟩:=Po h H
  exact⟨v1,H2,hle _ _ _ _ h1,h2,h3⟩
theorem Wo {k:Nat} {args:List V} {v:V} (hle:CLe cl cl') (hn:Be cl k args=none) (h:F9 cl k args=some v):Be cl' k args=none:=by
 cases hp:Be cl' k args with
 |none=>rfl
 |some u=>
  exfalso
  have:Be cl k args=some u:=Bb fun H=>by
   obtain⟨v1,H2,h1,_,_⟩:=Po h H
   have h2:=hle _ _ _ _ h1
   rw[Dr hp H] at h2
   rw[h1,←h2]
  rw[hn] at this
  simp at this
theorem Bd0 (hle:CLe cl cl') {env:Env} {H:Hp} {op:AOp} {r:V×Hp} (h:Ce cl G n0 env H op=some r):Ce cl' G n0 env H op=some r:=by
 cases op<;>try exact h
 case call f ags fr=>
  simp only[Ce] at h⊢
  split at h
  ·split at h
   ·split at h
    ·rename_i hr
     rw[hle _ _ _ _ hr]
     exact h
    ·simp at h
   ·simp at h
  ·simp at h
 case pcall f ags=>
  simp only[Ce] at h⊢
  split at h
  ·split at h
   ·split at h
    ·rename_i hr
     rw[Bdn hle hr]
     exact h
    ·rename_i hn
     split at h
     ·rename_i hr
      rw[Wo hle hn hr,Bcl hle hr]
      exact h
     ·simp at h
   ·simp at h
  ·simp at h
theorem Sn (hle:CLe cl cl') {o:AOper} {st st':St} (h:Fa cl G n0 o st=some st'):Fa cl' G n0 o st=some st':=by
 obtain⟨v,H,ha,rfl⟩:=Gy h
 refine Qq ?_
 unfold Jm at ha⊢
 split at ha
 ·exact Bd0 hle ha
 ·split at ha
  ·rename_i want _ _ b _
   cases hb: (b==want)<;>simp only[hb,cond_true,cond_false] at ha⊢
   ·exact ha
   ·exact Bd0 hle ha
  ·exact ha
  ·simp at ha
theorem U8 (hle:CLe cl cl'): ∀ (os:List AOper) {st st':St},Lb cl G n0 os st=some st'→Lb cl' G n0 os st=some st'
 | [],_,_,h=>h
 |o::os,st,st',h=>by
  simp only[Lb] at h⊢
  split at h
  ·rename_i s1 h1
   rw[Sn hle h1]
   exact U8 hle os h
  ·simp at h
theorem Bbf (hle:CLe cl cl'): ∀ (L:List (Bool×AOper)) {st st':St},evX cl G n0 L st=some st'→evX cl' G n0 L st=some st'
 | [],_,_,h=>h
 | (true,o)::L,st,st',h=>by
  simp only[evX] at h⊢
  split at h
  ·rename_i s1 h1
   rw[Sn hle h1]
   exact Bbf hle L h
  ·simp at h
 | (false,o)::L,st,st',h=>by
  simp only[evX] at h⊢
  split at h
  ·rename_i s1 h1
   rw[Sn hle h1]
   split at h
   ·rename_i ha
    simp only[if_pos ha]
    exact Bbf hle L h
   ·simp at h
  ·simp at h
theorem Zy {f f':St→Option (Out×St)} (hf: ∀st r,f st=some r→f' st=some r) {lv:List Nat} : ∀ {n:Nat} {st:St} {r:Out×St},G9 f lv n st=some r→G9 f' lv n st=some r
 |0,_,_,h=>by simp[G9] at h
 |n+1,st,r,h=>by
  rw[G9] at h⊢
  cases hp:f ⟨st.env.keep lv,st.hp⟩ with
  |none=>rw[hp] at h;simp at h
  |some p=>
   obtain⟨o,s⟩:=p
   rw[hp] at h
   rw[hf _ _ hp]
   cases o with
   |normal=>exact Zy hf h
   |exit id=>exact h
   |ret=>exact h
theorem Bhm (hle:CLe cl cl'): ∀ (ac:ACode) {n0:Bn} {st:St} {r:Out×St},Bq cl G n0 Bg ac st=some r→Bq cl' G n0 Bg ac st=some r:=by
 intro ac
 induction ac with
 |skip=>intro n0 st r h;exact h
 |reg d os=>
  intro n0 st r h
  simp only[Bq] at h⊢
  split at h
  ·rename_i s1 h1
   rw[U8 hle os h1];exact h
  ·simp at h
 |regx L=>
  intro n0 st r h
  simp only[Bq] at h⊢
  split at h
  ·rename_i s1 h1
   rw[Bbf hle L h1];exact h
  ·simp at h
 |reg2 lv os da za xa db zb xb=>
  intro n0 st r h
  simp only[Bq] at h⊢
  split at h
  ·rename_i s1 h1
   have h2:ev2 cl' G n0 lv os da za xa db zb xb st=some s1:=by
    unfold ev2 at h1⊢
    split at h1
    ·rename_i s hs
     rw[U8 hle os hs];exact h1
    ·simp at h1
   rw[h2];exact h
  ·simp at h
 |seq x lv y ihx ihy=>
  intro n0 st r h
  simp only[Bq] at h⊢
  cases hx:Bq cl G n0 Bg x st with
  |none=>rw[hx] at h;simp at h
  |some p=>
   obtain⟨o,s⟩:=p
   rw[hx] at h
   rw[ihx hx]
   cases o with
   |normal=>exact ihy h
   |exit id=>exact h
   |ret=>exact h
 |cond c x y ihx ihy=>
  intro n0 st r h
  simp only[Bq] at h⊢
  split at h
  ·rename_i t ht
   cases t with
   |true=>exact ihx h
   |false=>exact ihy h
  ·simp at h
 |block id x ih=>
  intro n0 st r h
  simp only[Bq] at h⊢
  cases hx:Bq cl G n0 Bg x st with
  |none=>rw[hx] at h;simp at h
  |some p=>
   rw[hx] at h
   rw[ih hx]
   exact h
 |loop lv x ih=>
  intro n0 st r h
  simp only[Bq] at h⊢
  obtain⟨n,hn⟩:=Jk.1 h
  exact Jk.2 ⟨n,Zy (fun st r hh=>ih hh) hn⟩
 |scope x ih=>intro n0 st r h;exact ih h
 |trim lv x ih=>
  intro n0 st r h
  simp only[Bq] at h⊢
  cases hx:Bq cl G ⟨n0.n,Bc st.hp::n0.ts⟩ Bg x st with
  |none=>rw[hx] at h;simp at h
  |some p=>
   obtain⟨o,s⟩:=p
   rw[hx] at h
   rw[ih hx]
   exact h
 |frz ts x ih=>
  intro n0 st r h
  simp only[Bq] at h⊢
  split at h
  ·rename_i hf
   exact ih h
  ·simp at h
 |exit id=>intro n0 st r h;exact h
 |ret=>intro n0 st r h;exact h
theorem Bhl (hle:CLe cl cl') {fn:AFunc} {args:List V} {H:Hp} {r:V×Hp} (h:Cr cl G Bg fn args H=some r):Cr cl' G Bg fn args H=some r:=by
 unfold Cr at h⊢
 split at h
 ·rename_i hl
  rw[if_pos hl]
  cases hx:Bq cl G (Bc H) Bg fn.body ⟨Qn 0 args,H⟩ with
  |none=>rw[hx] at h;simp at h
  |some p=>rw[hx] at h;rw[Bhm hle _ hx];exact h
 ·simp at h
end
noncomputable def Rb (R:Prg) (cl:D6):D6:=fun f args H=>
 match R.prim f with
 |some p=>p args H
 |none=>
  match R.fns f with
  |some fn=>Cr cl R.glob Bg fn args H
  |none=>none
theorem Zl {R:Prg} {cl cl':D6} (hle:CLe cl cl'):CLe (Rb R cl) (Rb R cl'):=by
 intro k args H r h
 unfold Rb at h⊢
 split at h
 ·exact h
 ·split at h
  ·exact Bhl hle h
  ·simp at h
abbrev Bmu:=Nat→List V→Hp→V×Hp→Prop
def Bdt (cl:D6) (X:Bmu):Prop:=∀k args H r,cl k args H=some r→X k args H r
def B0j (R:Prg) (X:Bmu):Prop:=∀cl,Bdt cl X→Bdt (Rb R cl) X
def N9 (R:Prg):Bmu:=fun k args H r=> ∀X,B0j R X→X k args H r
theorem Wi (R:Prg):B0j R (N9 R):=fun cl hcl k args H r h X hX=>hX cl (fun k args H r h=>hcl k args H r h X hX) k args H r h
theorem Bb0 {R:Prg} {X:Bmu} (hX:B0j R X) {k:Nat} {args:List V} {H:Hp} {r:V×Hp} (h:N9 R k args H r):X k args H r:=h X hX
theorem Bky {R:Prg} {k:Nat} {args:List V} {H:Hp} {r:V×Hp} (h:N9 R k args H r): ∃cl,Bdt cl (N9 R)∧Rb R cl k args H=some r:=by
 refine Bb0 (X:=fun k args H r=>N9 R k args H r∧∃cl,Bdt cl (N9 R)∧Rb R cl k args H=some r) ?_ h|>.2
 intro cl hcl k args H r hr
 have hu:Bdt cl (N9 R):=fun k args H r h=> (hcl k args H r h).1
 exact⟨Wi R cl hu k args H r hr,cl,hu,hr⟩
open Classical in
noncomputable def Bwm (c d:D6):D6:=fun k args H=>match c k args H with|some r=>some r|none=>d k args H
theorem Bpb {R:Prg} {k:Nat} {args:List V} {H:Hp} {r:V×Hp} (h:N9 R k args H r): ∀r',N9 R k args H r'→r'=r:=by
 refine(Bb0 (X:=fun k args H r=>N9 R k args H r∧∀r',N9 R k args H r'→r'=r) ?_ h).2
 intro cl hcl k args H r hr
 have hu:Bdt cl (N9 R):=fun k args H r h=> (hcl k args H r h).1
 refine⟨Wi R cl hu k args H r hr,fun r' hr'=> ?_⟩
 obtain⟨cl',hu',hs'⟩:=Bky hr'
 have h1:CLe cl (Bwm cl cl'):=fun k args H r h=>by simp only[Bwm,h]
 have h2:CLe cl' (Bwm cl cl'):=fun k args H r h=>by
  simp only[Bwm]
  cases hc:cl k args H with
  |none=>exact h
  |some r2=>
   have:=(hcl k args H r2 hc).2 r (hu' k args H r h)
   simp only;rw[this]
 have e1:=Zl h1 k args H r hr
 have e2:=Zl h2 k args H r' hs'
 rw[e1] at e2
 exact(Option.some.inj e2).symm
open Classical in
noncomputable def ev (R:Prg):D6:=fun k args H=>if h: ∃r,N9 R k args H r then some h.choose else none
theorem Bks {R:Prg} {k:Nat} {args:List V} {H:Hp} {r:V×Hp} :ev R k args H=some r↔N9 R k args H r:=by
 unfold ev
 constructor
 ·intro h
  split at h
  ·rename_i hx
   simp only[Cdt] at h
   rw[←h];exact hx.choose_spec
  ·simp at h
 ·intro h
  have hx: ∃r,N9 R k args H r:=⟨r,h⟩
  rw[dif_pos hx,Bpb h _ hx.choose_spec]
theorem B3h {R:Prg} {k:Nat} {args:List V} {H:Hp} {r:V×Hp} (h:Rb R (ev R) k args H=some r):ev R k args H=some r:=
 Bks.2 (Wi R (ev R) (fun _ _ _ _ h=>Bks.1 h) k args H r h)
theorem Bh {R:Prg} {k:Nat} {fn:AFunc} (hp:R.prim k=none) (hf:R.fns k=some fn) {args:List V} {H:Hp} {r:V×Hp} (h:Cr (ev R) R.glob Bg fn args H=some r):ev R k args H=some r:=by
 refine B3h ?_
 unfold Rb
 rw[hp,hf]
 exact h
def Kw (P:Program) (G:Gi) (k:Nat) (args:List V) (H:Hp) (r:V×Hp):Prop:=FnOk P k∧
  ∀ (w:World) (pl:Pl) (Bd:Nat→Prop) (us:Array Value),HR w pl Bd H→GR G w (Bl pl H)→RVs w (Bl pl H) pl (Bc H) args us→
   Calls P k us w fun e w'=> ∃u pl',e= .returned u∧Fin w pl Bd H r.1 r.2 u w' pl'
def Bi (P:Program) (fn:Func) (af:AFunc):Bool:=
 (match fn.body with|some c=>Fx P fn.ntmps c af.body|none=>false) &&Tm P af.res fn.results.toList&& !(fn.name== "runtime.NumGoroutine")
structure PrgOk (P:Program) (R:Prg):Prop where
 mixed:P.follows .mixedOrders=true
 fns: ∀k af,R.fns k=some af→∃fn,P.funcs[k]? =some fn∧Bi P fn af=true
 prims: ∀k p,R.prim k=some p→∀args H r,p args H=some r→Kw P R.glob k args H r
theorem Bbs: ∀ (args:List V) (k t:Nat),(Qn k args).get t=if k≤t∧t<k+args.length then args.getD (t - k) .any else .any
 | [],k,t=>by
  have: ¬ (k≤t∧t<k+0):=by omega
  simp[Qn,Env.get]
 |v::args,k,t=>by
  simp only[Qn,Env.get]
  cases hb:Nat.beq k t with
  |true=>
   have:=Cd6 hb
   subst this
   simp
  |false=>
   have hne:k≠t:=fun he=>by subst he;simp at hb
   rw[cond_false,Bbs args (k+1) t]
   by_cases h:k+1≤t∧t<k+1+args.length
   ·rw[if_pos h,if_pos ⟨by omega,by simp;omega⟩]
    have:t - k=(t - (k+1))+1:=by omega
    rw[this];rfl
   ·rw[if_neg h,if_neg (by simp;omega)]
theorem Bx1 {w:World} {O:Gz} {pl:Pl} {n:Nat} {args:List V} {us:Array Value} (h:RVs w O pl n args us) (m:Nat):RE w O pl n (Qn 0 args) { tmps:=us++Array.replicate m undef,defers:=[] } :=by
 intro t ht
 rw[Bbs] at ht⊢
 by_cases hl:0≤t∧t<0+args.length
 ·rw[if_pos hl] at ht⊢
  have h1:=h.1
  have htl:t<args.length:=by omega
  have e: (us++Array.replicate m undef).getD t undef=us.getD t undef:=by
   rw[Cd3,Cd3,Array.getElem?_append_left (by omega)]
  simp only[Nat.sub_zero]
  rw[e]
  exact h.2 t htl
 ·rw[if_neg hl] at ht
  simp[V.ok] at ht
theorem Bk1 {w:World} {pl:Pl} {Bd:Nat→Prop} {H:Hp} (hH:HR w pl Bd H) {n:Nat} (hn:Bd n) {vs ws:List V} (h:Gp (fzV n H) vs=some ws) {us:List Value} (hu: ∀i,i<vs.length→(vs.getD i .any).ok=true→RV w (Bl pl H) pl (Bc H) (vs.getD i .any) (us.getD i undef)):
  ws.length=vs.length∧∀i,i<ws.length→RV w (Bl pl (Cx H n)) pl n (ws.getD i .any) (us.getD i undef):=by
 obtain⟨h1,h2⟩:=Gn (d:=V.any) (d':=V.any) h
 refine⟨h1,fun i hi=> ?_⟩
 have:=h2 i (by omega)
 exact Bku hH hn this (hu i (by omega) (Bo3 this))
theorem Bkd {P:Program} {R:Prg} (hR:PrgOk P R) {cl:D6} (hcl:Fg P R.glob cl) {k:Nat} {af:AFunc} (hf:R.fns k=some af) {args:List V} {H:Hp} {r:V×Hp} (h:Cr cl R.glob Bg af args H=some r):Kw P R.glob k args H r:=by
 obtain⟨fn,hfn,hck⟩:=hR.fns k af hf
 unfold Bi at hck
 rw[Cdv,Cdv] at hck
 obtain⟨⟨hbody,hres⟩,hname⟩:=hck
 cases hb:fn.body with
 |none=>rw[hb] at hbody;simp at hbody
 |some c=>
  rw[hb] at hbody
  simp only at hbody
  refine⟨⟨fn,hfn,by simpa using hname,by rw[hb];rfl⟩,fun w pl Bd us hH hG hargs=> ?_⟩
  refine calls_of_wp hfn hb ?_
  unfold Cr at h
  split at h
  ·rename_i hnp
   have hstart:Rel R.glob (fun m=>Bd m∨m=Bc H) w (Bl pl H) pl (Bc H) fn.ntmps ⟨Qn 0 args,H⟩ { tmps:=us++Array.replicate (fn.ntmps - us.size) undef,defers:=[] } w:=
    ⟨⟨pl,hH.enter,Bx1 hargs _,hG,Ext.refl _ _,PlExt.refl _ _,Cd7 _⟩,by simp;omega,rfl⟩
   have hn0:N8 (fun m=>Bd m∨m=Bc H) (Bc H:Nat):=fun m hm=>by
    rcases hm with hm|rfl
    ·exact .inl (hH.le m hm)
    ·exact .inl (Cd7 _)
   have leaving: ∀ (st:St),Bhz af (Bc H) st=some r→∀ (a':Act) (w':World),Rel R.glob (fun m=>Bd m∨m=Bc H) w (Bl pl H) pl (Bc H) fn.ntmps st a' w'→
     a'.defers=[]∧∃v,(results fn a'.tmps).run P w'= .ok v w'∧∃u pl',Ending.returned v= .returned u∧Fin w pl Bd H r.1 r.2 u w' pl':=by
    intro st hl a' w' hRel
    obtain⟨⟨pl',h1,h2,h3,h4,h5,h6⟩,h7,h8⟩:=hRel
    refine⟨h8, ?_⟩
    unfold Bhz at hl
    split at hl
    ·rename_i vs hvs
     obtain⟨xs,l1,l2,l3,l4⟩:=Bly h1 h2 af.res fn.results.toList vs hres hvs
     refine⟨Bcv xs.toArray,Bi6 l1 l3,Bcv xs.toArray, ?_⟩
     split at hl
     ·split at hl
      ·rename_i ws H1 H2 hown
       simp only[Cdt] at hl
       subst hl
       have hinv:=OwnInv.start (Bd:=Bd) h1 (Or.inr rfl) (fun m hm=> ⟨Or.inl hm,hH.le m hm⟩)
       obtain⟨plb',t,lw,rw'⟩:=Bxr h1 vs xs st.hp pl' _ ws H1 H2 hinv hown (by omega) l4
       have hE:=t.inv.ext
       refine⟨plb',rfl,t.inv.hr, ?_,h4.trans hE,h5.trans (t.ple.le ?_),Nat.le_trans ?_ t.le⟩
       ·exact Bt4 (by omega) fun i hi=> (rw' i hi).mono hE (PlExt.refl _ _) (Cd7 _)
       ·rw[F6 h6];omega
       ·rw[F6 h6];omega
      ·simp at hl
     ·split at hl
      ·rename_i ws hws
       simp only[Cdt] at hl
       subst hl
       obtain⟨lw,rw'⟩:=Bk1 h1 (Or.inr rfl) hws (us:=xs) l4
       obtain⟨t1,t2⟩:=h1.take (Bc H) (Or.inr rfl) (Bd':=Bd) (fun m hm=> ⟨Or.inl hm,hH.le m hm⟩)
       refine⟨pl',rfl,t1, ?_,h4.trans t2,h5,by rw[F6 h6];omega⟩
       rw[F6 h6]
       exact Bt4 (by omega) rw'
      ·simp at hl
    ·simp at hl
   split at h
   ·rename_i st hc
    exact Bba hR.mixed hcl Bdz af.body c hbody hn0 _ .normal st hc _ w _ hstart fun a' w' hRel=>leaving st h a' w' hRel
   ·rename_i st hc
    exact Bba hR.mixed hcl Bdz af.body c hbody hn0 _ .ret st hc _ w _ hstart fun a' w' hRel=>leaving st h a' w' hRel
   ·simp at h
  ·simp at h
theorem Bse {P:Program} {R:Prg} (hR:PrgOk P R) {k:Nat} {args:List V} {H:Hp} {r:V×Hp} (h:ev R k args H=some r):Kw P R.glob k args H r:=by
 refine Bb0 (X:=Kw P R.glob) ?_ (Bks.1 h)
 intro cl hcl k args H r hr
 have hcs:Fg P R.glob cl:=fun k args H v H' hh=>hcl k args H (v,H') hh
 unfold Rb at hr
 split at hr
 ·rename_i p hp
  exact hR.prims k p hp args H r hr
 ·split at hr
  ·rename_i af haf
   exact Bkd hR hcs haf hr
  ·simp at hr
theorem Bwl (a b:Nat):Nat.beq a b=decide (a=b):=by
 cases h:Nat.beq a b with
 |true=>simp[Cd6 h]
 |false=>symm;rw[decide_eq_false_iff_not];intro e;subst e;simp at h
def Bsn:List (Nat×AFunc)→Nat→Option AFunc
 | [],_=>none
 | (k,f)::r,n=>bif Nat.beq k n then some f else Bsn r n
theorem Bhu: ∀ {t:List (Nat×AFunc)} {k:Nat} {f:AFunc},Bsn t k=some f→(k,f)∈t
 | [],_,_,h=>by simp[Bsn] at h
 | (j,g)::r,k,f,h=>by
  simp only[Bsn] at h
  cases hb:Nat.beq j k with
  |true=>
   rw[hb] at h
   simp only[cond_true,Cdt] at h
   subst h
   rw[Cd6 hb]
   simp
  |false=>
   rw[hb] at h
   exact List.mem_cons_of_mem _ (Bhu h)
theorem Brw {P:Program} {R:Prg} (hR:PrgOk P R) {k:Nat} {xs:List D} {x:D} (h:ev R k (xs.map .d) []=some (.d x,[])) {w:World} {us:Array Value} (hG:GR R.glob w (fun _=>False)) (hl:us.size=xs.length) (hu: ∀i,i<xs.length→RD w (fun _=>False) (xs.getD i .nilp) (us.getD i undef)):
  Calls P k us w fun e w'=> ∃u,e= .returned u∧RD w' (fun _=>False) x u∧RowKit.Below w.heap.size w w':=by
 have E0:Ext w (fun _=>False) w (Bl (fun _ _=>none) []):=⟨rfl,rfl,rfl,Cd7 _,fun b _ _=> ⟨rfl,Mh _ b⟩⟩
 refine((Bse hR h).2 w (fun _ _=>none) (fun _=>False) us (HR.none w _) (hG.mono E0) ⟨by simpa using hl,fun i hi=> ?_⟩).mono fun e w' he=> ?_
 ·rw[Dh xs i (by simpa using hi)]
  exact .d _ _ ((hu i (by simpa using hi)).mono E0)
 ·obtain⟨u,pl',rfl,hf⟩:=he
  exact⟨u,rfl,hf.rv.dd.mono ⟨rfl,rfl,rfl,Cd7 _,fun b _ _=> ⟨rfl,fun h=>h⟩⟩,hf.ext.os,hf.ext.tape,hf.ext.output,hf.ext.size,fun b hb=> (hf.ext.keep b hb (Mh _ b)).1⟩
theorem Bke {P:Program} {R:Prg} (hR:PrgOk P R) {k:Nat} {xs:List D} {b:Bool} (h:ev R k (xs.map .d) []=some (.d (.bool b),[])) {w:World} {us:Array Value} (hG:GR R.glob w (fun _=>False)) (hl:us.size=xs.length) (hu: ∀i,i<xs.length→RD w (fun _=>False) (xs.getD i .nilp) (us.getD i undef)):
  Calls P k us w fun e w'=>e= .returned (.bool b)∧RowKit.Below w.heap.size w w':=by
 refine(Brw hR h hG hl hu).mono fun e w' he=> ?_
 obtain⟨u,rfl,hd,hb⟩:=he
 exact⟨by rw[hd.bool_eq],hb⟩
theorem J5 (H:Hp):Cx H (Bc H)=H:=by simp[Cx,Bc]
theorem Fb (H:Hp) (o:Obj):Cx (Bp H o) (Bc H)=H:=by simp[Cx,Bc,Bp]
theorem Qt (H:Hp) (o o':Obj):Bw (Bp H o) (Bc H) o'=Bp H o':=by
 induction H with
 |nil=>rfl
 |cons a H ih=>exact congrArg (List.cons a) ih
theorem Cy (H:Hp) (g e:Nat) (xs:List V):C8 (Bp H (.row g e xs)) (Bc H) g=some (e,xs):=by
 simp[C8,Co]
theorem Bb7 {n d:Nat} {H:Hp} : ∀ (ds:List D),Gp (fz n d H) (ds.map .d)=some ds
 | []=>rfl
 |x::ds=>by
  have:fz n d H (.d x)=some x:=by cases d<;>rfl
  simp only[Cdd,Gp,this,Bb7 ds]
theorem Bsk (n:Nat) (H:Hp) (x:D):Yz n H (.d x)=some (.d x):=rfl
theorem Bbr {H:Hp} {n d r g i k e:Nat} {xs:List V} (hr: ¬r<n) (h:C8 H r g=some (e,xs)) (hk:i+k≤xs.length) {ys:List D} (hm:Gp (fz n d H) ((xs.drop i).take k)=some ys):fz n (d+1) H (.slc r g i k)=some (.vals e ys):=by
 rw[fz,if_neg hr,h]
 simp only[hk,if_true,hm]
theorem Bfv (H:Hp) (g e:Nat) (ds:List D) (k:Nat) (hk:k≤ds.length):Yz (Bc H) (Bp H (.row g e (ds.map .d))) (.slc (Bc H) g 0 k)=some (.d (.vals e (ds.take k))):=by
 have h: ((ds.map V.d).drop 0).take k=(ds.take k).map V.d:=by rw[List.drop_zero,List.map_take]
 have:=Bbr (H:=Bp H (.row g e (ds.map .d))) (n:=Bc H) (d:=7) (r:=Bc H) (g:=g) (i:=0) (k:=k) (by omega) (Cy H g e _) (by simpa using hk) (by rw[h];exact Bb7 _)
 show(if Bc H<Bc H then _ else(match fz (Bc H) Pb _ (.slc (Bc H) g 0 k) with|some x=>some (V.d x) |none=>none))=_
 rw[if_neg (by omega),show Pb=7+1 from rfl,this]
theorem Bxh (H:Hp) (g e:Nat) (ds:List D) (k:Nat) (hk:k=ds.length):Yz (Bc H) (Bp H (.row g e (ds.map .d))) (.slc (Bc H) g 0 k)=some (.d (.vals e ds)):=by
 subst hk
 rw[Bfv H g e ds _ (Cd7 _),List.take_length]
def Fv (p:Nat→Bool):Nat→Nat→Option Nat
 |0,_=>none
 |n+1,i=>if p i=true then some i else Fv p n (i+1)
theorem Q3 {p:Nat→Bool} : ∀ {n i j:Nat},Fv p n i=some j→i≤j∧j<i+n∧p j=true∧∀k,i≤k→k<j→p k=false
 |0,i,j,h=>by simp[Fv] at h
 |n+1,i,j,h=>by
  simp only[Fv] at h
  split at h
  ·rename_i hp
   simp only[Cdt] at h;subst h
   exact⟨Cd7 _,by omega,hp,fun k h1 h2=>by omega⟩
  ·rename_i hp
   obtain⟨h1,h2,h3,h4⟩:=Q3 h
   refine⟨by omega,by omega,h3,fun k k1 k2=> ?_⟩
   by_cases hk:k=i
   ·subst hk;simpa using hp
   ·exact h4 k (by omega) k2
theorem Um {p:Nat→Bool} : ∀ {n i:Nat},Fv p n i=none→∀k,i≤k→k<i+n→p k=false
 |0,i,_,k,h1,h2=>by omega
 |n+1,i,h,k,h1,h2=>by
  simp only[Fv] at h
  split at h
  ·simp at h
  ·rename_i hp
   by_cases hk:k=i
   ·subst hk;simpa using hp
   ·exact Um h k (by omega) (by omega)
abbrev Br:=List UInt8
abbrev Bf (xs:List Br):D:= .vals 1 (xs.map .str)
theorem Dk (xs:List Br) (i:Nat) (hi:i<xs.length): (xs.map D.str).getD i .nilp= .str (xs.getD i []):=by
 simp[Cda,hi]
def B8i (xs:List Br) (i:Nat):List V:=(xs.take i).map (fun t=>V.d (.str t))++List.replicate (xs.length - i) (V.d (.str []))
def Brf (k:IntKind) (w:World) (a:Option Addr) (len cap:Nat) (zs:List Int):Prop:=
 (a=none∧len=0∧cap=0∧zs=[])∨
 ∃x,a=some x∧len≤cap∧cap≤maxLen∧zs.length=cap∧(∀i,i<zs.length→w.cell? (x.add i)=some (.int k (zs.getD i 0)))∧∀n∈zs,(Lit.int k n).wf=true
def Bmv (w:World) (a:Option Addr) (len cap:Nat) (ss:List ByteArray):Prop:=
 ss.length=len∧len≤cap∧len≤maxLen∧(∀s∈ss,s.size≤maxLen)∧(len=0∨∃x,a=some x∧∀i,i<len→w.cell? (x.add i)=some (.string (ss.getD i ByteArray.empty)))
def Tt (ss:List ByteArray):List Br:=ss.map fun s=>s.data.toList
theorem Yn {w:World} {x:Addr} {v:Value} (h:w.cell? x=some v):x.spot=none∧x.block<w.heap.size:=by
 unfold World.cell? at h
 split at h
 ·rename_i hb
  split at h
  ·simp at h
  ·rename_i hs
   exact⟨by simpa using hs,(Array.getElem?_eq_some_iff.1 hb).1⟩
 ·simp at h
theorem Bdu (b o i:Nat): (⟨b,o,none⟩:Addr).add i=⟨b,o+i,none⟩:=by
 unfold Addr.add
 split
 ·rename_i h;subst h;rfl
 ·rfl
theorem Bts {w:World} {a:Option Addr} {len cap:Nat} {ss:List ByteArray} (h:Bmv w a len cap ss):RD w (fun _=>False) (Bf (Tt ss)) (.slice a len cap):=by
 obtain⟨hl,hc,hm,hs,hx⟩:=h
 by_cases h0:len=0
 ·subst h0
  have:ss=[]:=List.eq_nil_of_length_eq_zero hl
  subst this
  exact .vals0 _ _ _
 ·rcases hx with hx| ⟨x,rfl,hx⟩
  ·exact absurd hx h0
  ·have hx0:=hx 0 (by omega)
   have ha0:x.add 0=x:=by simp[Addr.add]
   rw[ha0] at hx0
   obtain⟨hsp,hb⟩:=Yn hx0
   obtain⟨b,o,sp⟩:=x
   simp only at hsp hb
   subst hsp
   have Bc: ((Tt ss).map D.str).length=len:=by simp[Tt,hl]
   have Cc: ∀i,i<len→((Tt ss).map D.str).getD i .nilp= .str ((ss.getD i ByteArray.empty).data.toList):=by
    intro i hi
    rw[←hl] at hi
    simp[Tt,Cda,hi]
   have:=RD.vals (w:=w) (O:=fun _=>False) 1 ((Tt ss).map D.str) b o cap (fun i _=> .string (ss.getD i ByteArray.empty)) (by omega) (fun h=>h) hb (fun i hi=>by rw[Cc i (by omega)];rfl)
    (fun i j hi hj=>by
     obtain rfl:j=0:=by omega
     have:=hx i (by omega)
     rw[Bdu] at this
     simpa using this)
    (fun i j hi hj=>rfl)
    (fun i j hi hj=>by
     obtain rfl:j=0:=by omega
     rw[Cc i (by omega)]
     exact .str _ _ rfl)
   rw[Bc] at this
   exact this
theorem Bto {w:World} {k:IntKind} {a:Option Addr} {len cap:Nat} {zs:List Int} (h:Brf k w a len cap zs):RD w (fun _=>False) (.vals 1 ((zs.take len).map (.int k))) (.slice a len cap):=by
 rcases h with⟨rfl,rfl,rfl,rfl⟩ | ⟨x,rfl,hl,hm,hz,hx,hw⟩
 ·exact .vals0 _ _ _
 ·by_cases h0:len=0
  ·subst h0
   exact .vals0 _ _ _
  ·have hx0:=hx 0 (by omega)
   have ha0:x.add 0=x:=by simp[Addr.add]
   rw[ha0] at hx0
   obtain⟨hsp,hb⟩:=Yn hx0
   obtain⟨b,o,sp⟩:=x
   simp only at hsp hb
   subst hsp
   have Bc: ((zs.take len).map (D.int k)).length=len:=by simp;omega
   have Cc: ∀i,i<len→((zs.take len).map (D.int k)).getD i .nilp= .int k (zs.getD i 0):=by
    intro i hi
    have hi':i<zs.length:=by omega
    simp[Cda,hi,hi']
   have:=RD.vals (w:=w) (O:=fun _=>False) 1 ((zs.take len).map (D.int k)) b o cap (fun i _=> .int k (zs.getD i 0)) (by omega) (fun h=>h) hb (fun i hi=>by rw[Cc i (by omega)];rfl)
    (fun i j hi hj=>by
     obtain rfl:j=0:=by omega
     have:=hx i (by omega)
     rw[Bdu] at this
     simpa using this)
    (fun i j hi hj=>rfl)
    (fun i j hi hj=>by
     obtain rfl:j=0:=by omega
     rw[Cc i (by omega)]
     exact .int _ _)
   rw[Bc] at this
   exact this
theorem Bp5 {w:World} {a:Option Addr} {len cap:Nat} {zs:List Int} (h:Brf .u8 w a len cap zs): ∀i,0≤(zs.take len).getD i 0∧(zs.take len).getD i 0≤255:=by
 have hall: ∀n∈zs,0≤n∧n≤255:=by
  rcases h with⟨_,_,_,rfl⟩ | ⟨x,_,_,_,_,_,hw⟩
  ·intro n hn;simp at hn
  ·intro n hn
   have:=hw n hn
   have e1:IntKind.u8.min=0:=rfl
   have e2:IntKind.u8.max=255:=rfl
   simp only[Lit.wf,Cdv,decide_eq_true_eq,e1,e2] at this
   exact this
 intro i
 by_cases hi:i< (zs.take len).length
 ·rw[Cda,List.getElem?_eq_getElem hi]
  exact hall _ (List.mem_of_mem_take (Cdr hi))
 ·rw[Cda,List.getElem?_eq_none (by omega)]
  simp
theorem Nq {H:Hp} {r:Nat} {o o':Obj} (h:r<Bc H):Bw (Bp H o) r o'=Bp (Bw H r o') o:=by
 induction H generalizing r with
 |nil=>simp[Bc] at h
 |cons a H ih=>
  cases r with
  |zero=>rfl
  |succ r=>exact congrArg (List.cons a) (ih (by simp[Bc] at h⊢;omega))
theorem Mf (H:Hp) (r:Nat) (o o':Obj):Bw (Bw H r o) r o'=Bw H r o':=by
 induction H generalizing r with
 |nil=>rfl
 |cons a H ih=>
  cases r with
  |zero=>rfl
  |succ r=>exact congrArg (List.cons a) (ih r)
end Go.Ev
