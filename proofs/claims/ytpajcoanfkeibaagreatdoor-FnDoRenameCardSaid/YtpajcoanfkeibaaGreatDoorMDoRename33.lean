/- Lemmas (several texts in one). -/
import Derived.Test.YtpajcoanfkeibaaGreatDoorMDoRename6
import Derived.Test.YtpajcoanfkeibaaGreatDoorMDoRename24
import Derived.Test.YtpajcoanfkeibaaGreatDoorMDoRename32
set_option maxRecDepth 100000
set_option maxHeartbeats 4000000
set_option linter.unusedSimpArgs false
set_option linter.unusedVariables false
namespace Go.Proofs.YtpajcoanfkeibaaGreatDoor.Code
open Go Go.Ev Go.Proofs
def Kg (e:En) (s:Bq):En:= { e with key:=s }
theorem Bh9 {e:En} (h:Gn e=true) {s:Bq} (hs:1≤s.length∧s.length≤12):Gn (Kg e s)=true:=by
 have hk:Gb s=true:=by unfold Gb;simp;omega
 show(Gb s&&D7 e.till&&Lm e)=true
 change (Gb e.key&&D7 e.till&&Lm e)=true at h
 rw[Bool.and_eq_true,Bool.and_eq_true] at h
 rw[hk,h.1.2,h.2]
 rfl
def Zy (b:Ba) (t s:Bq):Ba:=⟨b.now,Dt (Cb (Cb b t) s).ents (F4 (Cb (Cb b t) s).ents s) (Kg (Bw b t) s)⟩
theorem Bm7 {b:Ba} (h:BaO b) {t s:Bq} (hk:Fg b.ents t=true) (hs:1≤s.length∧s.length≤12):Mf (Cb b t) (Kg (Bw b t) s)=true∧M8 (Kg (Bw b t) s)=false:=by
 obtain⟨r1,r2,r3⟩:=Mh h hk
 obtain⟨he,hf⟩:=h.each _ r2
 have hl:=J8 hk
 have h12:=h.len
 have Bc: (Cb b t).ents.length<12:=by
  unfold Cb
  rw[if_pos hk]
  simp only[Md _ _ hl]
  omega
 have hl2:=Qz (Cb b t) s
 have hok:=Bh9 he hs
 refine⟨?_, ?_⟩
 ·unfold Mf
  rw[hok,Jy]
  have h3: (Cb (Cb b t) s).ents.length<12:=by omega
  rcases hf with h4|h4
  ·simp[Kg,h3,h4]
  ·have: ¬ (Bw b t).till≤b.now:=by omega
   simp[Kg,h3,this]
 ·cases hq:M8 (Kg (Bw b t) s) with
  |false=>rfl
  |true=>exact absurd hok (by rw[Bay hq];simp)
theorem X8 {b:Ba} (hO:BaO b) {t s:Bq} (ht:1≤t.length∧t.length≤12) (hs:1≤s.length∧s.length≤12) (hk:Fg b.ents t=true):
  Be (ev R) 11 [.d (Df b), .d (.vals 1 [.str Bao, .str t, .str s])]=some (.tup [.d (Df (Zy b t s)), .d (Te R8)])∧BaO (Zy b t s)∧U2 (Zy b t s) s=(Kg (Bw b t) s,true)∧Cb (Zy b t s) s=Cb (Cb b t) s:=by
 obtain⟨hm,hemp⟩:=Bm7 hO hk hs
 obtain⟨r1,r2,r3⟩:=Mh hO hk
 obtain⟨he,hf⟩:=hO.each _ r2
 have hC:=Ld hO t
 have hq:=Yk (Bh9 he hs)
 obtain⟨b1,b2,b3⟩:=Bsd hC (e:=Kg (Bw b t) s) hm
 have hnow: (Cb b t).now=b.now:=Jy b t
 rw[hnow] at b1 b2 b3
 change BaO (Zy b t s) at b1
 change U2 (Zy b t s) s=(Kg (Bw b t) s,true) at b2
 change Cb (Zy b t s) s=Cb (Cb b t) s at b3
 have hp:Yd (Cb b t) (Kg (Bw b t) s)=(Zy b t s,true):=by
  unfold Yd Ls
  rw[(F6 _).2 hC,hemp,hm,hnow]
  rfl
 refine⟨?_,b1,b2,b3⟩
 have hd:=(Brd (w:=Bao) (t:=t) (s:=s) (z:= !Fg b.ents t) (e:=eDo b t 0) hO hk (B09 b t 0) (by rw[Bew hk];exact hq.sm) (by rw[Bew hk];exact hq.fit)).does
 rw[Bew hk] at hd
 change Bqm _ _ (Bkz (Cb b t) (Kg (Bw b t) s)) (Bcc (Cb b t) (Kg (Bw b t) s) R8) at hd
 have h1:Bkz (Cb b t) (Kg (Bw b t) s)=Zy b t s:=by unfold Bkz;rw[hp];rfl
 have h2:Bcc (Cb b t) (Kg (Bw b t) s) R8=R8:=by unfold Bcc;rw[hp];rfl
 rw[h1,h2] at hd
 rw[←Bew (k:=0) hk] at hd
 have h:=B02 Bqk (by decide) hO ht hs b1.g.sm (by simp[R8,Re.texts]) hd
 rw[h]
 simp[R8,Re.kind]
theorem Bzu {es:List En} {t:Bq} (h: ∀x∈es,¬x.key=t):Fg es t=false:=by
 cases hk:Fg es t with
 |false=>rfl
 |true=>
  have hl:=J8 hk
  unfold Fg at hk
  rw[Bool.and_eq_true] at hk
  exact absurd (of_decide_eq_true hk.2) (h _ (Gr hl))
theorem Mv {b:Ba} (h:BaO b) (t:Bq):Cb b t=⟨b.now,b.ents.filter fun e=> !decide (e.key=t)⟩:=by
 have hd:=Su (Ld h t).asc (Sz h t)
 have hself: ∀es:List En,(∀x∈es,¬x.key=t)→es.filter (fun e=> !decide (e.key=t))=es:=fun es he=>List.filter_eq_self.2 fun x hx=>by simp[he x hx]
 have key: (b.ents.filter fun e=> !decide (e.key=t))=(Cb b t).ents:=by
  cases hk:Fg b.ents t with
  |false=>
   have:Cb b t=b:=Bo8 hk
   rw[this]
   exact hself _ (Su h.asc hk)
  |true=>
   have hl:=J8 hk
   have hdl:b.ents.drop (F4 b.ents t)=b.ents.getD (F4 b.ents t) default::b.ents.drop (F4 b.ents t+1):=by
    rw[List.drop_eq_getElem_cons hl]
    simp[List.getD_eq_getElem?_getD,hl]
   have hkey: (b.ents.getD (F4 b.ents t) default).key=t:=by
    have hk2:=hk
    unfold Fg at hk2
    rw[Bool.and_eq_true] at hk2
    exact of_decide_eq_true hk2.2
   have he: (Cb b t).ents=b.ents.take (F4 b.ents t)++b.ents.drop (F4 b.ents t+1):=by unfold Cb;rw[if_pos hk];rfl
   rw[he] at hd⊢
   have h2:b.ents=b.ents.take (F4 b.ents t)++b.ents.drop (F4 b.ents t):=(List.take_append_drop _ _).symm
   conv=>lhs;rw[h2,hdl]
   rw[List.filter_append,List.filter_cons]
   simp only[hkey,decide_true,Bool.not_true,Bool.false_eq_true,if_false]
   rw[←List.filter_append]
   exact hself _ hd
 rw[key]
 have:=Jy b t
 cases hq:Cb b t with
 |mk n es=>rw[hq] at this;simp only at this;rw[this]
theorem Bo7 {b:Ba} (h:BaO b) (s t:Bq):Cb (Cb b s) t=Cb (Cb b t) s:=by
 rw[Mv (Ld h s) t,Mv (Ld h t) s,Mv h s,Mv h t]
 simp only[List.filter_filter,Bool.and_comm]
theorem Bwt {b:Ba} (h:BaO b) {t:Bq} {e:En} (he:e∈b.ents) (hk:e.key=t):Fg b.ents t=true∧Bw b t=e:=by
 cases hh:Fg b.ents t with
 |false=>exact absurd hk (Su h.asc hh e he)
 |true=>
  obtain⟨r1,r2,_⟩:=Mh h hh
  exact⟨rfl,Bg5 h.asc _ r2 _ he (by rw[r1,hk])⟩
theorem Bhw {b:Ba} {e:En} {x y:Ba} (hx:Yd b e=(x,true)) (hO:BaO b) (hy:Ls b e=(y,true)):x=y:=by
 unfold Yd at hx
 rw[(F6 b).2 hO,if_pos rfl,hy] at hx
 exact(congrArg Prod.fst hx).symm
theorem Bm8 {b:Ba} (hO:BaO b) {t s:Bq} (hs:1≤s.length∧s.length≤12) (hk:Fg b.ents t=true):Yd (Cb b t) (Kg (Bw b t) s)=(Zy b t s,true):=by
 obtain⟨hm,hemp⟩:=Bm7 hO hk hs
 unfold Yd Ls
 rw[(F6 _).2 (Ld hO t),hemp,hm,Jy b t]
 rfl
theorem Bss {b:Ba} (hO:BaO b) {t:Bq} (ht:1≤t.length∧t.length≤12) (hk:Fg b.ents t=true):Zy b t t=b:=by
 obtain⟨r1,r2,r3⟩:=Mh hO hk
 have h:=Bm8 hO ht hk
 have hr:Kg (Bw b t) t=Bw b t:=by
  have:Bw b t= { Bw b t with key:=(Bw b t).key } :=rfl
  unfold Kg
  rw[this,r1]
 rw[hr] at h
 exact Bhw h (Ld hO t) r3
theorem Bsr {b:Ba} (hO:BaO b) {t s:Bq} (ht:1≤t.length∧t.length≤12) (hs:1≤s.length∧s.length≤12) (hts: ¬t=s) (hk:Fg b.ents t=true) (hX:BaO (Zy b t s)) (hg:U2 (Zy b t s) s=(Kg (Bw b t) s,true)) (hd:Cb (Zy b t s) s=Cb (Cb b t) s):Fg (Zy b t s).ents t=false∧Fg (Zy b t s).ents s=true∧Zy (Zy b t s) s t=Cb b s:=by
 obtain⟨r1,r2,r3⟩:=Mh hO hk
 have hh:Fg (Zy b t s).ents s=true∧Bw (Zy b t s) s=Kg (Bw b t) s:=by
  unfold U2 at hg
  rw[(F6 _).2 hX] at hg
  cases hq:Fg (Zy b t s).ents s with
  |false=>rw[hq] at hg;simp at hg
  |true=>rw[hq] at hg;simp at hg;exact⟨rfl,hg⟩
 have hno:Fg (Zy b t s).ents t=false:=Bzu fun x hx=>by
  have hC:=Su (Ld hO t).asc (Sz hO t)
  have hin:x∈Dt (Cb (Cb b t) s).ents (F4 (Cb (Cb b t) s).ents s) (Kg (Bw b t) s):=hx
  unfold Dt at hin
  rcases List.mem_append.1 hin with h1|h1
  ·exact hC x (S9 (List.mem_of_mem_take h1))
  ·rcases List.mem_cons.1 h1 with rfl|h1
   ·exact fun he=>hts he.symm
   ·exact hC x (S9 (List.mem_of_mem_drop h1))
 refine⟨hno,hh.1, ?_⟩
 have h:=Bm8 hX ht hh.1
 rw[hh.2,hd] at h
 have hr:Kg (Kg (Bw b t) s) t=Bw b t:=by
  have:Bw b t= { Bw b t with key:=(Bw b t).key } :=rfl
  unfold Kg
  conv=>rhs;rw[this,r1]
 rw[hr] at h
 have hN:=Ld hO s
 have hin:Bw b t∈(Cb b s).ents:=by
  rw[Mv hO s]
  refine List.mem_filter.2 ⟨r2, ?_⟩
  rw[r1];simp[hts]
 obtain⟨k1,k2⟩:=Bwt hN hin r1
 obtain⟨_,_,q3⟩:=Mh hN k1
 rw[k2,Bo7 hO s t] at q3
 exact Bhw h (Ld (Ld hO t) s) q3
theorem e_4 (H:Hp) (bs:List Int) (h: ∀i,0≤bs.getD i 0∧bs.getD i 0≤255):ev R 4 [.d (Sb bs)] H=some (.d (.bool true),H):=by
 by_cases hbig:1048576<bs.length
 ·refine Bh (fn:=f4) rfl rfl ?_
  have hbig': (1048576:Int)< (bs.length:Int):=by omega
  simp(maxSteps:=1000000) [Ce,-List.getD_eq_getElem?_getD,-List.map_map,f4,hbig']
 have hbig': ¬ (1048576:Int)< (bs.length:Int):=by omega
 obtain⟨b,t,ed,hL,htk⟩:=k_7 H bs h
 have hk2:=Bwd htk
 have ht:1≤t.length∧t.length≤12:=by omega
 refine Bh (fn:=f4) rfl rfl ?_
 have p3:=p_8 b t hL.sm hL.fit
 have p4:=p_9 b t hL.sm hL.fit
 have q2:EnSm Si:=⟨by simp[Si],by simp[Si],by simp[Si]⟩
 unfold U2 at p3 p4
 by_cases hin:Jo b=true∧Fg b.ents t=true
 ·rw[if_pos hin] at p3 p4
  obtain⟨hk,hh⟩:=hin
  have hO:=(F6 b).1 hk
  obtain⟨r1,r2,r3⟩:=Mh hO hh
  have hf:1≤([102,114,101,115,104]:Bq).length∧([102,114,101,115,104]:Bq).length≤12:=by decide
  have hts: ¬t=[102,114,101,115,104]:=by
   intro he
   rw[he] at hk2
   exact absurd hk2 (by decide)
  obtain⟨d1,x1,x2,x3⟩:=X8 hO ht hf hh
  obtain⟨n1,n2,n3⟩:=Bsr hO ht hf hts hh x1 x2 x3
  obtain⟨d2,y1,y2,y3⟩:=X8 x1 hf ht n2
  obtain⟨d3,z1,z2,z3⟩:=X8 hO ht ht hh
  rw[n3] at d2
  rw[Bss hO ht hh] at d3
  have p6:=p_8 (Zy b t [102,114,101,115,104]) [102,114,101,115,104] x1.g.sm x1.g.fit
  rw[x2] at p6
  have p7:=p_8 (Zy b t [102,114,101,115,104]) t x1.g.sm x1.g.fit
  unfold U2 at p7
  rw[n1] at p7
  simp only[Bool.false_eq_true,and_false,if_false] at p7
  have p8:=B4k b [102,114,101,115,104] hL.sm hL.fit
  unfold Bgc at p8
  rw[hk] at p8
  simp only[if_true] at p8
  have s1:=Bna hL.sm
  have s2:=Bna (Ld hO [102,114,101,115,104]).g.sm
  have s3:=Bm9 (hL.sm.each _ r2)
  generalize Zy b t [102,114,101,115,104]=X at*
  generalize Cb b [102,114,101,115,104]=N at*
  generalize Fg b.ents [102,114,101,115,104]=zz at*
  generalize Si=E at*
  generalize Bw b t=G at*
  obtain⟨gk,gt,gd,gx,gl,gs,gf⟩:=G
  simp only at r1
  subst r1
  simp only[Kg] at p6
  simp only[Bao] at d1 d2 d3
  simp(maxSteps:=1000000) [Ce,-List.getD_eq_getElem?_getD,-List.map_map,f4,hbig',ed,p3,p4,p6,p7,p8,d1,d2,d3,s1,s2,s3,R8,Re.kind]
 ·rw[if_neg hin] at p3 p4
  have s2:=Bm9 q2
  generalize Si=E at*
  simp(maxSteps:=1000000) [Ce,-List.getD_eq_getElem?_getD,-List.map_map,f4,hbig',ed,p3,p4,s2]
end Go.Proofs.YtpajcoanfkeibaaGreatDoor.Code
