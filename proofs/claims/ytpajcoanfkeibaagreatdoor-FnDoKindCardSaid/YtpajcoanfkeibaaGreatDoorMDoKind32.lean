/- Lemmas (several texts in one). -/
import Derived.Test.YtpajcoanfkeibaaGreatDoorMDoKind6
import Derived.Test.YtpajcoanfkeibaaGreatDoorMDoKind23
import Derived.Test.YtpajcoanfkeibaaGreatDoorMDoKind31
set_option maxRecDepth 100000
set_option maxHeartbeats 4000000
set_option linter.unusedSimpArgs false
set_option linter.unusedVariables false
open List renaming getD_eq_getElem?_getD → Cda, map_map → Cdb
namespace Go.Proofs.YtpajcoanfkeibaaGreatDoor.Code
open Go Go.Ev Go.Proofs
def Y1:D:= .vals 1 [.str [83,84,82,76,69,78], .str [76,76,69,78], .str [83,67,65,82,68], .str [90,67,65,82,68], .str [72,76,69,78]]
def kHp (H:Hp) (b:Ba) (G:En):Hp:=ap H [.row 0 2 [.d (Df b)], .row 0 7 [.d (Jn G)], .row 0 7 [.d (Jn G)]]
theorem Bdv (b:Ba):Yo (V.d (Df b))=some [.int .i64 b.now,La b.ents]:=rfl
theorem Bdw (r:Re):Yo (V.d (Qy r))=some [.int .i64 r.kind, .int .i64 r.num, .str r.text,Bf r.texts, .vals 5 (r.many.map Qy)]:=by rw[Bgk];rfl
theorem Bo6 (i:Nat) (hi:i<5): ([.str [83,84,82,76,69,78], .str [76,76,69,78], .str [83,67,65,82,68], .str [90,67,65,82,68], .str [72,76,69,78]]:List D).getD i .nilp= .str (Bsx i):=by
 match i,hi with
 |0,_=>rfl
 |1,_=>rfl
 |2,_=>rfl
 |3,_=>rfl
 |4,_=>rfl
theorem Bo5 (n:Nat) (h6:n<6): ([.str [110,111,110,101], .str [115,116,114,105,110,103], .str [108,105,115,116], .str [115,101,116], .str [122,115,101,116], .str [104,97,115,104]]:List D).getD n .nilp= .str (We.getD n []):=by
 match n,h6 with
 |0,_=>rfl
 |1,_=>rfl
 |2,_=>rfl
 |3,_=>rfl
 |4,_=>rfl
 |5,_=>rfl
theorem e_3 (H:Hp) (bs:List Int) (h: ∀i,0≤bs.getD i 0∧bs.getD i 0≤255):ev R 3 [.d (Si bs)] H=some (.d (.bool true),H):=by
 by_cases hbig:1048576<bs.length
 ·refine Bh (fn:=f3) rfl rfl ?_
  have hbig': (1048576:Int)< (bs.length:Int):=by omega
  simp(maxSteps:=1000000) [Ci,-Cda,-Cdb,f3,hbig']
 have hbig': ¬ (1048576:Int)< (bs.length:Int):=by omega
 obtain⟨b,t,ed,hL,htk⟩:=k_7 H bs h
 have hk2:=Bxl htk
 have ht:1≤t.length∧t.length≤12:=by omega
 refine Bh (fn:=f3) rfl rfl ?_
 have p3:=p_8 b t hL.sm hL.fit
 have p4:=p_9 b t hL.sm hL.fit
 have q2:EnSm Ut:=⟨by simp[Ut],by simp[Ut],by simp[Ut]⟩
 unfold Bg5 at p3 p4
 by_cases hin:K4 b=true∧G6 b.ents t=true
 ·rw[if_pos hin] at p3 p4
  obtain⟨hk,hh⟩:=hin
  have hO:=(Q8 b).1 hk
  obtain⟨r1,r2,r3⟩:=Bpx hO hh
  obtain⟨ke1,ke2⟩:=Bxm (hO.each _ r2).1
  have s1:=Bx3 hL.sm
  have s3:=Bnz (hL.sm.each _ r2)
  have d0:=Bwg hO ht hh
  have d6:=Bwf hO ht hh (by omega)
  generalize Bz b t=G at*
  have gn:=Bo5 G.kind.toNat (by omega)
  have cn0: (0:Int)≤G.kind:=by omega
  have cn1:G.kind<6:=by omega
  have cn2:G.kind.toNat<6:=by omega
  generalize We.getD G.kind.toNat []=T at*
  simp only[Buy] at d6
  obtain⟨o,e',X',he,rfl,rfl,g3,g4,g5⟩:=(C9 (F:=Bq (ev R) R.glob (Bc H) Bg Bsg) (lv:=[3,4,5,9,10]) 5
   (fun i e X=>X=kHp H b G∧e.get 3= .ptr (Bc H) 0 0 0∧e.get 4= .d (.str t)∧e.get 5= .ptr (Bc H+1) 0 0 0∧e.get 9= .d Y1∧e.get 10= .d (.int .i64 i))
   (fun o e X=>o= .exit 0∧X=kHp H b G∧e.get 3= .ptr (Bc H) 0 0 0∧e.get 4= .d (.str t)∧e.get 5= .ptr (Bc H+1) 0 0 0)
   (by
    rintro e X ⟨rfl,g3,g4,g5,g9,g10⟩
    simp[Cg,-Cda,-Cdb,Bsg,g3,g4,g5,g9,g10,Y1,kHp])
   (by
    rintro i e X hi ⟨rfl,g3,g4,g5,g9,g10⟩
    have c: (i:Int)<5:=by omega
    have c0: (0:Int)≤(i:Int):=by omega
    have g:=Bo6 i hi
    have w1:IntKind.i64.wrap ((i:Int)+1)=(i:Int)+1:=IntWalk.i64_in _ (by omega)
    obtain⟨⟨rk,rn,rt,rl,rm⟩,d,hr⟩:=d0 i hi
    simp only[Re.kind] at hr
    generalize Bsx i=W at*
    have a4:Bc H+3+1=Bc H+4:=rfl
    by_cases hq:G.kind=(i:Int)+1
    ·rw[if_pos hq] at hr
     subst hr
     simp[Cg,-Cda,-Cdb,Bsg,g3,g4,g5,g9,g10,Y1,kHp,c,c0,hi,g,w1,d,hq,s1,Re.kind,Bdv,Bdw,a4]
    ·rw[if_neg hq] at hr
     subst hr
     simp[Cg,-Cda,-Cdb,Bsg,g3,g4,g5,g9,g10,Y1,kHp,c,c0,hi,g,w1,d,hq,s1,Re.kind,Bdv,Bdw,a4])
   5 0 [(3, .ptr (Bc H) 0 0 0),(4, .d (.str t)),(5, .ptr (Bc H+1) 0 0 0),(9, .d Y1),(10, .d (.int .i64 0))] (kHp H b G) (by omega) ⟨rfl,rfl,rfl,rfl,rfl,rfl⟩).out
  simp only[kHp,Y1] at he g3 g4 g5
  simp(maxSteps:=1000000) [Ci,-Cda,-Cdb,f3,hbig',ed,p3,p4,s3,he,g3,g4,g5,kHp,d6,Zx,Re.text,gn,cn0,cn1,cn2]
 ·rw[if_neg hin] at p3 p4
  have s2:=Bnz q2
  generalize Ut=E at*
  simp(maxSteps:=1000000) [Ci,-Cda,-Cdb,f3,hbig',ed,p3,p4,s2]
end Go.Proofs.YtpajcoanfkeibaaGreatDoor.Code
