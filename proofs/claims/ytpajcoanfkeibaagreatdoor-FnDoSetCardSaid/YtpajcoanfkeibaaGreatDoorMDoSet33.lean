/- Lemmas (several texts in one). -/
import Derived.Test.YtpajcoanfkeibaaGreatDoorMDoSet6
import Derived.Test.YtpajcoanfkeibaaGreatDoorMDoSet24
import Derived.Test.YtpajcoanfkeibaaGreatDoorMDoSet32
set_option maxRecDepth 100000
set_option maxHeartbeats 4000000
set_option linter.unusedSimpArgs false
set_option linter.unusedVariables false
namespace Go.Proofs.YtpajcoanfkeibaaGreatDoor.Code
open Go Go.Ev Go.Proofs
def enS (t x:Bq):En:=⟨t,0,1,x,[],[],[]⟩
theorem Bwx {t:Bq} (ht:1≤t.length∧t.length≤12):F7 t=true:=by unfold F7;simp;omega
theorem Br1 {t x:Bq} (ht:1≤t.length∧t.length≤12) (hx:x.length≤40):Gq (enS t x)=true:=by
 show(F7 t&&Fu 0&&Mc (enS t x))=true
 rw[Bwx ht]
 have h:Mc (enS t x)=(decide (x.length≤40) &&true&&true&&true):=rfl
 rw[h,decide_eq_true hx]
 rfl
def baS (b:Ba) (t x:Bq):Ba:=⟨b.now,Fa (Co b t).ents (Ga (Co b t).ents t) (enS t x)⟩
theorem B6o {b:Ba} (h:BaO b) {t x:Bq} (ht:1≤t.length∧t.length≤12) (hx:x.length≤40):Mv b (enS t x)=decide ((Co b t).ents.length<12)∧Be9 b (enS t x)=if(Co b t).ents.length<12 then(baS b t x,true) else(b,false):=by
 have hm:Mv b (enS t x)=decide ((Co b t).ents.length<12):=by
  show(Gq (enS t x) && !(decide ((0:Int)≠0) &&decide ((0:Int)≤b.now)) &&decide ((Co b t).ents.length<12))=_
  rw[Br1 ht hx];simp
 refine⟨hm, ?_⟩
 unfold Be9 Nc
 rw[(F4 b).2 h,hm]
 simp only[if_true,Pn,enS]
 by_cases hl: (Co b t).ents.length<12
 ·simp[hl,baS,enS]
 ·simp[hl]
theorem Bos {b:Ba} (h:BaO b) {t:Bq} (hl: ¬ (Co b t).ents.length<12):Fh b.ents t=false∧b.ents.length=12:=by
 have h1:=h.len
 have h2:=Q8 b t
 cases hk:Fh b.ents t with
 |false=>exact⟨rfl,by omega⟩
 |true=>
  have:=Kl hk
  unfold Co at hl
  rw[if_pos hk] at hl
  simp only[Ms _ _ this] at hl
  omega
theorem Bzs {b:Ba} (hO:BaO b) {t x:Bq} (ht:1≤t.length∧t.length≤12) (hx:x.length≤40):Bc (ev R) 11 [.d (Db b), .d (.vals 1 [.str Bt8, .str t, .str x])]=some (if(Co b t).ents.length<12 then .tup [.d (Db (baS b t x)), .d (P7 Tp)] else .tup [.d (Db b), .d (P7 (Zt [102,117,108,108]))]):=by
 obtain⟨hm,hp⟩:=B6o hO ht hx
 have he:EnSm (enS t x):=⟨by simp[enS],by simp[enS],by simp[enS]⟩
 have hq:EnFit (enS t x):=(Yq (Br1 ht hx)).fit
 have hd:=(Bv9 (w:=Bt8) (l:=[]) (z:= !Fh b.ents t) (e:=eDo b t 0) hO.g.sm hO.g.fit he hq).does
 have hsm:BaSm (Blk b (enS t x)):=by
  unfold Blk
  rw[hp]
  by_cases hl: (Co b t).ents.length<12
  ·rw[if_pos hl]
   exact(Bib hO (e:=enS t x) (by rw[hm];simpa using hl)).1.g.sm
  ·rw[if_neg hl]
   exact hO.g.sm
 have h:=B18 (rp:=Bcm b (enS t x) Tp) B1v (by decide) hO ht hx hsm (by unfold Bcm;split<;>simp[Tp,Zt,Re.texts]) hd
 rw[h]
 unfold Blk Bcm
 rw[hp]
 by_cases hl: (Co b t).ents.length<12
 ·simp[hl,Tp,Re.kind]
 ·simp[hl,Zt,Re.kind]
theorem Bq6 {b:Ba} (hO:BaO b) {t x:Bq} (ht:1≤t.length∧t.length≤12) (hx:x.length≤40) (hl: (Co b t).ents.length<12):BaO (baS b t x)∧Fh (baS b t x).ents t=true∧Bz (baS b t x) t=enS t x:=by
 obtain⟨hm,hp⟩:=B6o hO ht hx
 obtain⟨h1,h2,h3⟩:=Bib hO (e:=enS t x) (by rw[hm];simpa using hl)
 change BaO (baS b t x) at h1
 refine⟨h1, ?_⟩
 change Xa (baS b t x) t=(enS t x,true) at h2
 unfold Xa at h2
 cases hk:Fh (baS b t x).ents t with
 |true=>rw[(F4 _).2 h1,hk] at h2;simp at h2;exact⟨rfl,h2⟩
 |false=>rw[(F4 _).2 h1,hk] at h2;simp at h2
theorem e_5 (H:Hp) (bs ms:List Int) (h: ∀i,0≤bs.getD i 0∧bs.getD i 0≤255) (h': ∀i,0≤ms.getD i 0∧ms.getD i 0≤255):ev R 5 [.d (Pm bs), .d (Pm ms)] H=some (.d (.bool true),H):=by
 by_cases hbig:1048576<bs.length
 ·refine Bh (fn:=f5) rfl rfl ?_
  have hbig': (1048576:Int)< (bs.length:Int):=by omega
  simp(maxSteps:=1000000) [Ca,-List.getD_eq_getElem?_getD,-List.map_map,f5,hbig']
 have hbig': ¬ (1048576:Int)< (bs.length:Int):=by omega
 by_cases hmig:1048576<ms.length
 ·refine Bh (fn:=f5) rfl rfl ?_
  have hmig': (1048576:Int)< (ms.length:Int):=by omega
  simp(maxSteps:=1000000) [Ca,-List.getD_eq_getElem?_getD,-List.map_map,f5,hbig',hmig']
 have hmig': ¬ (1048576:Int)< (ms.length:Int):=by omega
 obtain⟨b,t,ed,hL,htk⟩:=k_7 H bs h
 have hk2:=Bwy htk
 have ht:1≤t.length∧t.length≤12:=by omega
 refine Bh (fn:=f5) rfl rfl ?_
 have p3:=p_8 b t hL.sm hL.fit
 have p4:=p_9 b t hL.sm hL.fit
 have p5:=Bw5 b hL.fit
 have q2:EnSm Sv:=⟨by simp[Sv],by simp[Sv],by simp[Sv]⟩
 unfold Xa at p3 p4
 cases hk:Jy b with
 |false=>
  rw[hk] at p3 p4 p5
  simp only[Bool.false_eq_true,false_and,if_false] at p3 p4
  have s2:=Bgg q2
  generalize Sv=E at*
  simp(maxSteps:=1000000) [Ca,-List.getD_eq_getElem?_getD,-List.map_map,f5,hbig',hmig',ed,p3,p4,p5,s2]
 |true=>
  have hO:=(F4 b).1 hk
  rw[hk] at p3 p4 p5
  obtain⟨G,g3,s3⟩: ∃G:En,(if true=true∧Fh b.ents t=true then(Bz b t,true) else(Sv,false))=(G,Fh b.ents t)∧Bc (ev R) 10 [.d (F3 G), .d (F3 G)]=some (.d (.bool true)):=by
   cases hh:Fh b.ents t with
   |true=>exact⟨_,by simp,Bgg (hL.sm.each _ (Bpn hO hh).2.1)⟩
   |false=>exact⟨_,by simp,Bgg q2⟩
  rw[g3] at p3 p4
  obtain⟨ts,tl,hs,eo⟩:=B71 (ap H [.row 0 2 [.d (Db b)], .row 0 7 [.d (F3 G)], .row 0 7 [.d (F3 G)]]) ms h'
  obtain⟨x,hx,hxl⟩: ∃x:Bq,(∀a r,ts=a::r→x=a)∧x.length≤40∧(ts=[]→x=[110,111,110,101]):=by
   cases ts with
   |nil=>exact⟨[110,111,110,101],by simp,by simp⟩
   |cons a r=>exact⟨a,by rintro _ _ ⟨⟩;rfl,hs a (by simp),by simp⟩
  obtain⟨hx40,hxn⟩:=hxl
  have d1:=Bzs hO ht hx40
  have e40: (x.length:Int)≤40:=by omega
  by_cases hl: (Co b t).ents.length<12
  ·rw[if_pos hl] at d1
   obtain⟨hB,kB,gB⟩:=Bq6 hO ht hx40 hl
   have d2:=Bq0 hB ht (.inr (by rw[gB];rfl))
   have d3:=Bvr hB ht kB (by rw[gB];simp[enS])
   have d4:=Bzt hB ht kB (by rw[gB];simp[enS])
   have d5:=Bn8 hB ht (.inr (by rw[gB];rfl))
   have d6:=Bzr hB ht
   have d7:=Bq0 (Bck hB t) ht (.inl (Tj hB t))
   rw[Tj hB t] at d7
   rw[Yo kB] at d5
   rw[kB] at d2 d6
   rw[gB] at d2 d3 d4 d5
   simp only[if_true,Bool.false_eq_true,if_false,enS] at d2 d3 d4 d5 d6 d7
   generalize baS b t x=B at*
   generalize Co B t=B2 at*
   generalize Fh b.ents t=z at*
   simp only[Bt8,B1r,Bt9,B1s,Bax,B1q] at d1 d2 d3 d4 d5 d6 d7
   cases ts with
   |nil=>
    have hxe:=hxn rfl
    subst hxe
    simp(maxSteps:=1000000) [Ca,-List.getD_eq_getElem?_getD,-List.map_map,f5,hbig',hmig',ed,p3,p4,p5,s3,eo,d1,d2,d3,d4,d5,d6,d7,Bf,Tp,P5,Lv,Qx,Wi,Re.kind,Re.num,Re.text]
   |cons a r=>
    have hxe:=hx a r rfl
    subst hxe
    have c1: (0:Int)< (r.length:Int)+1:=by omega
    simp(maxSteps:=1000000) [Ca,-List.getD_eq_getElem?_getD,-List.map_map,f5,hbig',hmig',ed,p3,p4,p5,s3,eo,d1,d2,d3,d4,d5,d6,d7,Bf,Tp,P5,Lv,Qx,Wi,Re.kind,Re.num,Re.text,c1,e40]
  ·rw[if_neg hl] at d1
   obtain⟨n1,n2⟩:=Bos hO hl
   rw[n1] at p3 p4
   have n3: (b.ents.length:Int)=12:=by omega
   simp only[Bt8] at d1
   cases ts with
   |nil=>
    have hxe:=hxn rfl
    subst hxe
    simp(maxSteps:=1000000) [Ca,-List.getD_eq_getElem?_getD,-List.map_map,f5,hbig',hmig',ed,p3,p4,p5,s3,eo,d1,Bf,Zt,Re.kind,n3]
   |cons a r=>
    have hxe:=hx a r rfl
    subst hxe
    have c1: (0:Int)< (r.length:Int)+1:=by omega
    simp(maxSteps:=1000000) [Ca,-List.getD_eq_getElem?_getD,-List.map_map,f5,hbig',hmig',ed,p3,p4,p5,s3,eo,d1,Bf,Zt,Re.kind,n3,c1,e40]
end Go.Proofs.YtpajcoanfkeibaaGreatDoor.Code
