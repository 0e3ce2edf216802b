/- Lemmas (several texts in one). -/
import Derived.Test.YtpajcoanfkeibaaGreatDoorMDoRename6
import Derived.Test.YtpajcoanfkeibaaGreatDoorMDoRename23
import Derived.KernelRfl
set_option maxRecDepth 100000
set_option maxHeartbeats 4000000
set_option linter.unusedSimpArgs false
set_option linter.unusedVariables false
namespace Go.Proofs.YtpajcoanfkeibaaGreatDoor.Code
open Go Go.Ev Go.Proofs
theorem Bvi:f177= { f177 with body:= .seq f177.body.hd f177.body.lv (.seq f177.body.tl.hd f177.body.tl.lv (.seq f177.body.tl.tl.hd f177.body.tl.tl.lv (.seq f177.body.tl.tl.tl.hd f177.body.tl.tl.tl.lv (.seq Y3 f177.body.tl.tl.tl.tl.lv f177.body.tl.tl.tl.tl.tl)))) } :=rfl
theorem By8 {H l:Hp} {r:Nat} {o:Ev.Obj} (h:Cf H r=some o):Cf (ap H l) r=some o:=by
 have:=D6 h
 rw[P5] at h⊢
 rw[ap,List.getElem?_append_left (by simpa[Bc] using this)]
 exact h
theorem Bqy (H l:Hp) (m k g e n:Nat) (ds:List D) (hm:m≤k) (h:Cf l k=some (.row g e (ds.map V.d))) (hn:n=ds.length):Ws (Bc H+m) (ap H l) (.slc (Bc H+k) g 0 n)=some (.d (.vals e ds)):=by
 have hr:Cw (ap H l) (Bc H+k) g=some (e,ds.map V.d):=by
  unfold Cw
  rw[L8,h]
  simp
 have hmm:Gq (fz (Bc H+m) 7 (ap H l)) (((ds.map V.d).drop 0).take n)=some ds:=by
  rw[List.drop_zero,List.take_of_length_le (by simp[hn])]
  exact P6 (Tu ds)
 have:=Yu (n:=Bc H+m) (d:=7) (r:=Bc H+k) (g:=g) (i:=0) (k:=n) (by omega) hr (by simp;omega) hmm
 show(if Bc H+k<Bc H+m then _ else(match fz (Bc H+m) M7 _ (.slc (Bc H+k) g 0 n) with|some x=>some (V.d x) |none=>none))=_
 rw[if_neg (by omega),show M7=7+1 from rfl,this]
def crH (c:V) (n:Int) (zs:List En) (H:Hp):Hp:=
 [.row 0 2 [c], .row 0 2 [.agg [.d (.int .i64 0), .nils 7]], .row zs.length 7 ((zs.map Fy).map V.d), .row 0 2 [.agg [.d (.int .i64 n), .slc (Bc H+2) zs.length 0 zs.length]]]
theorem B5g (b:Ba) (hb:b.ents.length≤1000000) (h: ∀e∈b.ents,EnSm e) (H:Hp) (r g:Nat) (hr:Cf H r=some (.row g 7 ((b.ents.map Fy).map V.d))):ev R 34 [.agg [.d (.int .i64 b.now), .slc r g 0 b.ents.length]] H=some (.agg [.d (.int .i64 b.now), .slc (Bc H) 0 0 b.ents.length],ap H [.row 0 7 ((b.ents.map Fy).map V.d)]):=by
 refine Bh (fn:=f34) rfl rfl ?_
 obtain⟨L,hL⟩: ∃L,L=(b.ents.map Fy).map V.d:=⟨_,rfl⟩
 have hlow:=fun l=>By8 (l:=l) hr
 rw[←hL] at hlow
 have hrl:=D6 hr
 obtain⟨c,hc⟩: ∃c:V,c= .agg [.d (.int .i64 b.now), .slc r g 0 b.ents.length]:=⟨_,rfl⟩
 obtain⟨o,e',X',he,rfl,rfl,g2,g3⟩:=(C8 (F:=Bp (ev R) R.glob (Bc H) Bg Bbd) (lv:=[2,3,11,12,13]) b.ents.length
  (fun i e X=>X=ap H (crH c b.now (b.ents.take i) H)∧e.get 2= .ptr (Bc H+1) 0 0 0∧e.get 3= .ptr (Bc H+3) 0 0 0∧e.get 11= .slc r g 0 b.ents.length∧e.get 12= .d (.int .i64 b.ents.length)∧e.get 13= .d (.int .i64 i))
  (fun o e X=>o= .exit 0∧X=ap H (crH c b.now b.ents H)∧e.get 2= .ptr (Bc H+1) 0 0 0∧e.get 3= .ptr (Bc H+3) 0 0 0)
  (by
   rintro e X ⟨rfl,g2,g3,g11,g12,g13⟩
   rw[List.take_length]
   simp(maxSteps:=1000000) [Ce,-List.getD_eq_getElem?_getD,-List.map_map,Bbd,g2,g3,g11,g12,g13,crH])
  (by
   rintro i e X hi ⟨rfl,g2,g3,g11,g12,g13⟩
   have c': (i:Int)< (b.ents.length:Int):=by omega
   have c0: (0:Int)≤(i:Int):=by omega
   have g:L[i]? =some (V.d (Fy (b.ents.getD i default))):=by rw[hL];simp[List.getD_eq_getElem?_getD,hi]
   have p:=Bwk (b.ents.getD i default) (h _ (Gr hi))
   have w1:IntKind.i64.wrap ((i:Int)+1)=(i:Int)+1:=IntWalk.i64_in _ (by omega)
   have hs:=Js b.ents i default hi
   have hl: (b.ents.take i).length=i:=by rw[List.length_take];omega
   have hl2: (b.ents.take (i+1)).length=i+1:=by rw[List.length_take];omega
   have sf:List.map V.d (List.map Fy (b.ents.take i))++[V.d (Fy (b.ents.getD i default))]=List.map V.d (List.map Fy (b.ents.take (i+1))):=by rw[hs];simp
   clear hs
   generalize b.ents.getD i default=x at*
   generalize b.ents.take i=zs at*
   generalize b.ents.take (i+1)=ys at*
   have rm: (i+1)*120≤Cq:=by unfold Cq;omega
   have hr4:r<Bc H+4:=by omega
   simp(maxSteps:=1000000) [Ce,-List.getD_eq_getElem?_getD,-List.map_map,Bbd,g2,g3,g11,g12,g13,c',c0,hi,g,p,w1,crH,rm,hl,hl2,sf,hlow,hr4])
  b.ents.length 0 [(2, .ptr (Bc H+1) 0 0 0),(3, .ptr (Bc H+3) 0 0 0),(11, .slc r g 0 b.ents.length),(12, .d (.int .i64 b.ents.length)),(13, .d (.int .i64 0))] (ap H (crH c b.now [] H)) (by omega) ⟨rfl,rfl,rfl,rfl,rfl,rfl⟩).out
 simp only[crH,List.map_nil,List.length_nil,hc] at he
 simp(maxSteps:=1000000) [Ce,-List.getD_eq_getElem?_getD,-List.map_map,f34,he,g2,g3,crH,Uq]
theorem B4o (b:Ba) (e:En) (hb:BaSm b) (hf:BaFit b) (he:EnSm e) (hq:EnFit e):Be (ev R) 177 [.d (Df b), .d (Fy e)]=some (.tup [.d (Df (Yd b e).1), .d (.bool (Yd b e).2)]):=Bb fun H=>by
 refine Bh (fn:=f177) rfl rfl ?_
 have p1:=Bov b e.key hb.len
 have p2:=Bow b hf
 have p3:=Bvp b hb.len hb.each
 have p5:=Bwk e he
 have hbl:=hb.len
 unfold Yd
 cases hk:Jo b with
 |false=>
  rw[hk] at p2
  simp(maxSteps:=1000000) [Ce,-List.getD_eq_getElem?_getD,-List.map_map,f177,p1,p2,Fx]
 |true=>
  rw[hk] at p2
  have hO:=(F6 b).1 hk
  rw[Bap hO] at p1
  have hC:=Ld hO e.key
  have hCn:=Sz hO e.key
  have hnow:=Jy b e.key
  have hT:=Bym hO e
  obtain⟨s1,s2⟩:=Btb hC.asc hCn
  have hCl:=hC.len
  have il:=Gs (Cb b e.key).ents (F4 (Cb b e.key).ents e.key) e
  have p4:=Bow (Cb b e.key) hC.g.fit
  rw[(F6 _).2 hC] at p4
  have p4b:=fun (H:Hp) (r g:Nat) hr=>B5g (Cb b e.key) hC.g.sm.len hC.g.sm.each H r g hr
  have hin: ∀x∈Dt (Cb b e.key).ents (F4 (Cb b e.key).ents e.key) e,EnSm x∧EnFit x:=fun x hx=>by
   unfold Dt at hx
   rw[List.perm_middle.mem_iff,List.take_append_drop,List.mem_cons] at hx
   rcases hx with rfl|hx
   ·exact⟨he,hq⟩
   ·exact⟨hC.g.sm.each x hx,hC.g.fit.each x hx⟩
  have hsT:BaSm ⟨b.now,Dt (Cb b e.key).ents (F4 (Cb b e.key).ents e.key) e⟩:=⟨by rw[il];omega,fun x hx=> (hin x hx).1⟩
  have hfT:BaFit ⟨b.now,Dt (Cb b e.key).ents (F4 (Cb b e.key).ents e.key) e⟩:=⟨hf.now,by rw[il];omega,fun x hx=> (hin x hx).2⟩
  have p6:=Bow _ hfT
  have p6b:=fun (H:Hp) (r g:Nat) hr=>B5g ⟨b.now,Dt (Cb b e.key).ents (F4 (Cb b e.key).ents e.key) e⟩ hsT.len hsT.each H r g hr
  simp only[il] at p6b
  have p7b:=Bwm b hb
  have p7n:=Bmz b hb
  rw[hT] at p6
  clear hin hsT hfT hT
  have ps:=fun (H:Hp) (r g:Nat) hr=>B1l H r g (((Cb b e.key).ents.map Fy).map V.d++[V.d (Fy e)]) hr (by simp;omega) (fun x hx=>by
   rcases List.mem_append.1 hx with hx|hx
   ·exact Bmt x hx
   ·rw[List.mem_singleton.1 hx];rfl) s1
  rw[s2] at ps
  clear s1 s2
  simp only[List.length_append,List.length_map,List.length_cons,List.length_nil,Nat.zero_add] at ps
  unfold Ls
  rw[Bjv]
  rw[Bvi]
  generalize Dt (Cb b e.key).ents (F4 (Cb b e.key).ents e.key) e=I at*
  have r2: ((Cb b e.key).ents.length+1)*120≤Cq:=by unfold Cq;omega
  have il':I.length≤(Cb b e.key).ents.length+1:=by omega
  have il2: (Cb b e.key).ents.length+1≤I.length:=by omega
  have kk: (e.kind=1)=True∨(e.kind=1)=False:=by
   by_cases h:e.kind=1
   ·exact .inl (eq_true h)
   ·exact .inr (eq_false h)
  cases h:Fg b.ents e.key with
  |false=>
   have hd:Cb b e.key=b:=by unfold Cb;rw[if_neg (by rw[h];simp)]
   rw[hd] at r2 il il' il2 p4⊢
   simp only[hd] at ps p4b p6b
   rw[h] at p1
   obtain⟨o,e',X',hg,rfl,rfl,g2,g3,g4,g6,g8⟩:=(Bee (Bc H) [(2, .ptr (Bc H) 0 0 0),(3, .ptr (Bc H+1) 0 0 0),(4, .ptr (Bc H+2) 0 0 0),(6, .ptr (Bc H+4) 0 0 0)] (ap H [.row 0 2 [.d (Df b)], .row 0 7 [.d (Fy e)], .row 0 2 [.agg [.d (.int .i64 0), .nils 7]], .row 0 7 ((b.ents.map Fy).map V.d), .row 0 2 [.agg [.d (.int .i64 b.now), .slc (Bc H+3) 0 0 b.ents.length]]]) (Bc H+1) e rfl (by rw[L8];rfl)).out
   have zf:=fun a1 a2 a3 a4 a5 (es:List En)=>Bqy H [a1,a2,a3,a4,a5, .row 0 7 ((es.map Fy).map V.d)] 5 5 0 7 es.length (es.map Fy) (Nat.le_refl _) rfl (by simp)
   have zi:=fun a1 a2 a3 a4 a5=>zf a1 a2 a3 a4 a5 I
   rw[il] at zi
   cases hm:Mf b e<;>rw[hm] at p6<;>cases hv:Yj e<;>rw[hv] at g8<;>rcases kk with k1|k1<;>simp(maxSteps:=1000000) [Ce,-List.getD_eq_getElem?_getD,-List.map_map,f177,ACode.hd,ACode.tl,ACode.lv,p1,p2,p3,hg,g2,g3,g4,g6,g8,k1,p5,ps,r2,il,il',il2,p6,p6b,p7b,p7n,p4,p4b,zi,zf]
  |true=>
   have hd:Cb b e.key=⟨b.now,Gw b.ents (F4 b.ents e.key)⟩:=by unfold Cb;rw[if_pos h]
   rw[hd] at r2 il il' il2 p4⊢
   simp only[hd] at ps p4b p6b
   rw[h] at p1
   have hl:=J8 h
   generalize F4 b.ents e.key=k at*
   have c1: (0:Int)≤(k:Int):=by omega
   have w1:IntKind.i64.wrap ((k:Int)+1)=(k:Int)+1:=IntWalk.i64_in _ (by omega)
   have pd:=fun (H:Hp) (r:Nat) hr=>B1o H r ((b.ents.map Fy).map V.d) k hr (by simp) (by simpa using hl) (by simpa using hbl)
   simp only[List.length_map] at pd
   obtain⟨DX,hDX⟩: ∃x,x=List.take k (List.map V.d (List.map Fy b.ents))++(List.drop (k+1) (List.map V.d (List.map Fy b.ents))++[enZ]):=⟨_,rfl⟩
   have dl:DX.length=b.ents.length:=by rw[hDX];simp;omega
   have dk:=Md b.ents k hl
   have dt:DX.take (b.ents.length - 1)=List.map V.d (List.map Fy (Gw b.ents k)):=by
    rw[hDX,←List.append_assoc,Xb,List.take_append_of_le_length (by simp[dk]),List.take_of_length_le (by simp[dk])]
   rw[←hDX] at pd
   have r1: (b.ents.length - 1)*120≤Cq:=by unfold Cq;omega
   have d1:b.ents.length - 1≤b.ents.length:=by omega
   dsimp only at r2 il il' il2 ps p4b p6b
   rw[dk] at r2 il il' il2
   simp only[dk] at ps p4b p6b
   obtain⟨o,e',X',hg,rfl,rfl,g2,g3,g4,g6,g8⟩:=(Bee (Bc H) [(2, .ptr (Bc H) 0 0 0),(3, .ptr (Bc H+1) 0 0 0),(4, .ptr (Bc H+2) 0 0 0),(6, .ptr (Bc H+4) 0 0 0)] (ap H [.row 0 2 [.d (Df b)], .row 0 7 [.d (Fy e)], .row 0 2 [.agg [.d (.int .i64 0), .nils 7]], .row 0 7 DX, .row 0 2 [.agg [.d (.int .i64 b.now), .slc (Bc H+5) 1 0 (b.ents.length - 1)]], .row 1 7 (List.map V.d (List.map Fy (Gw b.ents k)))]) (Bc H+1) e rfl (by rw[L8];rfl)).out
   have zf:=fun a1 a2 a3 a4 a5 a6 (es:List En)=>Bqy H [a1,a2,a3,a4,a5,a6, .row 0 7 ((es.map Fy).map V.d)] 6 6 0 7 es.length (es.map Fy) (Nat.le_refl _) rfl (by simp)
   have zi:=fun a1 a2 a3 a4 a5 a6=>zf a1 a2 a3 a4 a5 a6 I
   rw[il] at zi
   have zd:=fun a1 a2 a3 a4 a5 a6=>zf a1 a2 a3 a4 a5 a6 (Gw b.ents k)
   rw[dk] at zd
   cases hm:Mf b e<;>rw[hm] at p6<;>cases hv:Yj e<;>rw[hv] at g8<;>rcases kk with k1|k1<;>simp(maxSteps:=1000000) [Ce,-List.getD_eq_getElem?_getD,-List.map_map,f177,ACode.hd,ACode.tl,ACode.lv,p1,p2,p3,hg,g2,g3,g4,g6,g8,k1,p5,ps,r2,il,il',il2,p6,p6b,p7b,p7n,p4,p4b,zi,zd,pd,c1,w1,dl,dt,dk,r1,d1]
def okV:V:= .agg [.d (.int .i64 0), .d (.int .i64 0), .d (.str []), .nils 1, .nils 5]
def Bkz (b:Ba) (e:En):Ba:=if(Yd b e).2=true then(Yd b e).1 else b
def Bcc (b:Ba) (e:En) (rp:Re):Re:=if(Yd b e).2=true then rp else Bsp [102,117,108,108]
section
variable {b:Ba} {nu:V} {z:Bool} {e:En}
theorem B6h (hn: ∀l,Gt (nu::l)=none) (a:D) {rv:V} {rp:Re} (hrv:rv= .d (Te rp)∨(rv=okV∧rp=R8)) (hb:BaSm b) (hf:BaFit b) (he:EnSm e) (hq:EnFit e) (hz:zOk z e): ∀X r,r<Bc X→ev R 80 [.ptr r 0 0 0,rv] (oh X r (dO b a nu z e) [])=some (.d (Te (Bcc b e rp)),Bz X r (dO (Bkz b e) a nu z e)):=fun X r hr=>by
 refine Bh (fn:=f80) rfl rfl ?_
 have h0:=fun l=>Br2 X l r (dO b a nu z e) hr
 have hm:=fun l o'=>Bff X l r (dO b a nu z e) hr o'
 have p:=B4o b e hb hf he hq
 have p2:=B8f [102,117,108,108]
 unfold Bkz Bcc
 generalize Yd b e=q at*
 obtain⟨q1,q2⟩:=q
 simp only[dO,dC] at*
 rcases hrv with rfl| ⟨rfl,rfl⟩
 ·cases z with
  |false=>
   simp only[cond_false] at*
   cases q2
   ·simp(maxSteps:=1000000) [Ce,Nt,Qp,Qo,Nr,Qq,Nu,Nw,Lp,Qn,Nq,Xn,-List.getD_eq_getElem?_getD,-List.map_map,f80,h0,hm,p,p2,hn,okV,R8,Bf]
   ·simp(maxSteps:=1000000) [Ce,Nt,Qp,Qo,Nr,Qq,Nu,Nw,Lp,Qn,Nq,Xn,-List.getD_eq_getElem?_getD,-List.map_map,f80,h0,hm,p,p2,hn,okV,R8,Bf]
  |true=>
   obtain⟨h1,h2,h3⟩:=hz rfl
   obtain⟨k0,t0,d0,x0,l0,s0,f0⟩:=e
   simp only at h1 h2 h3
   subst h1 h2 h3
   simp only[cond_true] at*
   cases q2
   ·simp(maxSteps:=1000000) [Ce,Nt,Qp,Qo,Nr,Qq,Nu,Nw,Lp,Qn,Nq,Xn,-List.getD_eq_getElem?_getD,-List.map_map,f80,h0,hm,p,p2,hn,okV,R8]
   ·simp(maxSteps:=1000000) [Ce,Nt,Qp,Qo,Nr,Qq,Nu,Nw,Lp,Qn,Nq,Xn,-List.getD_eq_getElem?_getD,-List.map_map,f80,h0,hm,p,p2,hn,okV,R8]
 ·cases z with
  |false=>
   simp only[cond_false] at*
   cases q2
   ·simp(maxSteps:=1000000) [Ce,Nt,Qp,Qo,Nr,Qq,Nu,Nw,Lp,Qn,Nq,Xn,-List.getD_eq_getElem?_getD,-List.map_map,f80,h0,hm,p,p2,hn,okV,R8,Bf]
   ·simp(maxSteps:=1000000) [Ce,Nt,Qp,Qo,Nr,Qq,Nu,Nw,Lp,Qn,Nq,Xn,-List.getD_eq_getElem?_getD,-List.map_map,f80,h0,hm,p,p2,hn,okV,R8,Bf]
  |true=>
   obtain⟨h1,h2,h3⟩:=hz rfl
   obtain⟨k0,t0,d0,x0,l0,s0,f0⟩:=e
   simp only at h1 h2 h3
   subst h1 h2 h3
   simp only[cond_true] at*
   cases q2
   ·simp(maxSteps:=1000000) [Ce,Nt,Qp,Qo,Nr,Qq,Nu,Nw,Lp,Qn,Nq,Xn,-List.getD_eq_getElem?_getD,-List.map_map,f80,h0,hm,p,p2,hn,okV,R8]
   ·simp(maxSteps:=1000000) [Ce,Nt,Qp,Qo,Nr,Qq,Nu,Nw,Lp,Qn,Nq,Xn,-List.getD_eq_getElem?_getD,-List.map_map,f80,h0,hm,p,p2,hn,okV,R8]
end
section
variable {b:Ba} {nu:V} {z:Bool} {e:En}
theorem Brd {w t s:Bq} (hO:BaO b) (hh:Fg b.ents t=true) (hz:zOk z e) (he:EnSm { e with key:=s }) (hq:EnFit { e with key:=s }):DoesO 150 (dO b (.vals 1 [.str w, .str t, .str s]) (.nils 1) z e) (dO (Bkz (Cb b t) { e with key:=s }) (.vals 1 [.str w, .str t, .str s]) (.nils 1) z { e with key:=s }) (Bcc (Cb b t) { e with key:=s } R8):=fun X r hr=>by
 refine Bh (fn:=f150) rfl rfl ?_
 have hb:=hO.g.sm
 have hd:=Ld hO t
 have hm:=fun l2 o o'=>Bff X l2 r o hr o'
 have h0:=fun o l=>Br2 X l r o hr
 have hv:=fun l=>Bwa hz (h0 (dO b (.vals 1 [.str w, .str t, .str s]) (.nils 1) z e) l)
 have p1:=B8o b w t [.str s] (.vals 1 []) e hb.len
 have p2:=B4k b t hb hO.g.fit
 have p3:=fun (l2:Hp)=>Bwe (B6h (nu:= .nils 1) (z:=z) (e:= { e with key:=s }) (fun _=>rfl) (.vals 1 [.str w, .str t, .str s]) (.inr ⟨rfl,rfl⟩) hd.g.sm hd.g.fit he hq hz) X r hr l2
 have ha:0≤aV b.ents t:=by rw[Bap hO,if_pos hh];omega
 unfold Bgc at p2
 rw[(F6 b).2 hO,hh] at p2
 simp only[if_true] at p2
 generalize Bkz (Cb b t) { e with key:=s } =B at*
 generalize Bcc (Cb b t) { e with key:=s } R8=P at*
 generalize Cb b t=B0 at*
 cases z<;>simp only[dO,dC,okV,cond_true,cond_false] at* <;>simp(maxSteps:=1000000) [Ce,Nt,Qp,Qo,Nr,Qq,Nu,Nw,Lp,Qn,Nq,Xn,-List.getD_eq_getElem?_getD,-List.map_map,f150,h0,hm,hv,p1,p2,p3,ha]
end
def Bao:Bq:=[82,69,78,65,77,69]
theorem Bqk:Ev.Bcy (.str Bao) Yr Yt=some (some (Dw [75,75] 0 (.fn (.func 150) []))):=by kernel_rfl
abbrev doV (b b':Ba) (rp:Re):V:= .tup [.d (Df (if rp.kind=1 then b else b')), .d (Te rp)]
theorem sh3 {W t s:Bq} (hw:W.length≤40) (ht:1≤t.length∧t.length≤12) (hs:s.length≤40): ∀x∈[W,t,s],x.length≤40:=by
 intro x hx
 simp only[List.mem_cons,List.not_mem_nil,or_false] at hx
 rcases hx with rfl|rfl|rfl
 ·exact hw
 ·omega
 ·exact hs
theorem B02 {b:Ba} {W t s:Bq} {c:Nat} {rp:Re} {b':Ba} (hW:Ev.Bcy (.str W) Yr Yt=some (some (Dw [75,75] 0 (.fn (.func c) [])))) (hw:W.length≤40) (hO:BaO b) (ht:1≤t.length∧t.length≤12) (hs:1≤s.length∧s.length≤12) (hb':BaSm b') (hr:rp.texts.length≤1000000)
  (hc:Bqm c (dO b (.vals 1 [.str W, .str t, .str s]) (.nils 1) (!Fg b.ents t) (eDo b t 0)) b' rp):Be (ev R) 11 [.d (Df b), .d (.vals 1 [.str W, .str t, .str s])]=some (doV b b' rp):=
 B8e (xs:=[W,t,s]) hO hb' (by simp) (sh3 hw ht (by omega)) hr (B08 hW hO ht hs hc)
theorem Bew {b:Ba} {t:Bq} {k:Int} (h:Fg b.ents t=true):eDo b t k=Bw b t:=by unfold eDo;rw[if_pos h]
section
variable {b:Ba} {t:Bq} (hO:BaO b) (ht:1≤t.length∧t.length≤12)
include hO ht
end
end Go.Proofs.YtpajcoanfkeibaaGreatDoor.Code
