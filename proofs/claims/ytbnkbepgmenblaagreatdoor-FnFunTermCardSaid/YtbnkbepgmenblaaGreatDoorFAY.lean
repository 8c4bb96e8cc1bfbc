/-
  Lemmas towards the law, 25: TermT, InfP.
-/
import Derived.Test.YtbnkbepgmenblaaGreatDoorFAW
set_option linter.unusedVariables false
set_option maxHeartbeats 8000000
set_option maxRecDepth 100000
namespace Go.Proofs.YtbnkbepgmenblaaGreatDoor
open Go.RowKit
attribute [local go_sem ↓] Go.wp_at_zero Go.wp_at_succ
def TermC(t:Tr):Prop:= ∀(w:World) (v:Value) (d:Int),EnvM w->shape sigT t d=true->cnt t<=1000->Lies w t v->Calls Tryz.prog 28 #[v] w fun e w'=> e= .returned (.string (ofL (fmtL t)))/\Ext w w'
theorem j118: ∀t:Tr,TermC t:=Tr.ind fun k n ks hk=> by
 intro w v d hW hsh J2 j8;obtain⟨A,cap,rfl,hl,hc,hK⟩:=Lies.mk_iff.1 j8;obtain⟨j7,H7,I0,hsk⟩:=j11 hsh;have j7:opsT k=(ks.length:Int):=j7;have I0:n<=j15 k:=I0;have hlc:=j23 ks;have Hy:=j22 (.mk k n ks);have hcc:=hc;unfold maxLen at hcc;have pz:=J2;simp only[cnt] at pz;obtain⟨kk,nt,gf⟩: ∃kk:Nat,k=(kk:Int)+1/\kk < 16:=by
  rcases q55 j7 with h|h|h|h|h|h|h|h|h|h|h|h|h|h|h|h <;> exact⟨(k - 1).toNat,by omega,by omega⟩
 have hwr:IntKind.i64.wrap (k - 1)=(kk:Int):=by rw[show k - 1=(kk:Int) by omega];exact IntWalk.i64_in _ ⟨by omega,by omega⟩
 obtain⟨fe,D2⟩:=q42 kk gf;rw[<-nt] at fe;obtain⟨sh,K6⟩: ∃sh,sh=shpL.getD kk []:=⟨_,rfl⟩;have bk:=hdq (fun W=>(show Calls Tryz.prog 53 #[] W (fun e w'=> ∃b,e= .returned (.slice (some ⟨b,0,none⟩) 16 16)/\w'.cell? ⟨b,kk,none⟩=some (.string (ofL sh))/\Ext W w') from(j40 W).mono (by
  rintro e w' ⟨b,h1,h2,h3⟩;exact⟨b,h1,by rw[K6];exact h2 kk gf,h3⟩)))
 rw[<-K6] at fe D2;have hs1:k=1->sh= [35]:=fun h=> by
  have:kk=0:=by omega
  subst this;exact K6
 have hs2:k=2->sh= [42]:=fun h=> by
  have:kk=1:=by omega
  subst this;exact K6
 have hsz:=j27 D2;have hx:Ext w (w.alloc (.cells #[.int .i64 k,.int .i64 n,.slice A ks.length cap] 26)):=(xr w).alloc _;have ia:=heap_alloc_new w (.cells #[.int .i64 k,.int .i64 n,.slice A ks.length cap] 26);have Iz:(kk:Int) < 16:=by omega
 have vo:(0:Int)<=(kk:Int):=by omega
 have Gs:=hdq nt;clear K6 j8 nt;by_cases c1:k=1
 · have Np:=hs1 c1
   subst Np;obtain⟨m,rfl⟩: ∃m:Nat,n=m:=⟨n.toNat,by omega⟩;have hm:(m:Int)<=20:=by rw[c1] at I0;exact I0
   have HC:=hdq (fun W=> j145 m (by omega) W);have hr:fmtL (.mk k m ks)= [35]++decL m:=by
    rw[c1];simp[fmtL]
   have y7:=q72 m;obtain⟨y,hy⟩: ∃y,y=decL m:=⟨_,rfl⟩;rw[<-hy] at HC y7 hr;have hx1:=j27 y7;have HR:=hdq hr;have gi:(k==1)=decide (k=1):=by by_cases h:k=1 <;> simp[h]
   have P4:kk=0:=by have:=Gs.out;omega
   subst P4;clear hr j7 hy hs1 hs2 fe hk hsk hK hsh Hy gi hwr Iz vo Gs H7 J2 pz;subst c1;have hwJ:IntKind.i64.wrap 0=0:=IntWalk.i64_in _ ⟨by omega,by omega⟩;go_enter Tryz.func28,Tryz.ntmps28;go_wp2_with fail
   go_region_law (first|(go_simp;go_at_call 53;refine(bk.out _).mono ?_;rintro e w2 ⟨b,rfl,cw,e2⟩;obtain⟨s0,s1,s2,-,-,-⟩:=own3 (e2.blk ((xr _).drew.blk ia))))
   all_goals(
    go_wp2_with fail;refine(HC.out _).mono ?_;rintro e w3 ⟨rfl,rfl⟩;go_wp2_with fail;go_ret;exact⟨by rw[HR.out,<-y13];rfl,(hx.trans (xr _).drew).trans e2⟩)
 by_cases c2:k=2
 · have Np:=hs2 c2
   subst Np;obtain⟨m,rfl⟩: ∃m:Nat,n=m:=⟨n.toNat,by omega⟩;have hm:(m:Int)<=3:=by rw[c2] at I0;exact I0
   have HC:=hdq (fun W=> j145 m (by omega) W);have hr:fmtL (.mk k m ks)= [42]++decL m:=by
    rw[c2];simp[fmtL]
   have y7:=q72 m;obtain⟨y,hy⟩: ∃y,y=decL m:=⟨_,rfl⟩;rw[<-hy] at HC y7 hr;have hx1:=j27 y7;have HR:=hdq hr;have gi:(k==1)=decide (k=1):=by by_cases h:k=1 <;> simp[h]
   have P4:kk=1:=by have:=Gs.out;omega
   subst P4;clear hr j7 hy hs1 hs2 fe hk hsk hK hsh Hy gi hwr Iz vo Gs H7 J2 pz;subst c2;have hwJ:IntKind.i64.wrap 1=1:=IntWalk.i64_in _ ⟨by omega,by omega⟩;go_enter Tryz.func28,Tryz.ntmps28;go_wp2_with fail
   go_region_law (first|(go_simp;go_at_call 53;refine(bk.out _).mono ?_;rintro e w2 ⟨b,rfl,cw,e2⟩;obtain⟨s0,s1,s2,-,-,-⟩:=own3 (e2.blk ((xr _).drew.blk ia))))
   all_goals(
    go_wp2_with fail;refine(HC.out _).mono ?_;rintro e w3 ⟨rfl,rfl⟩;go_wp2_with fail;go_ret;exact⟨by rw[HR.out,<-y13];rfl,(hx.trans (xr _).drew).trans e2⟩)
 obtain⟨hf,hpl⟩:=j152 hsh c1 c2;obtain⟨p0,pt,gp⟩: ∃p0 pt,prt k=p0::pt:=by
  cases hq:prt k with
  |nil=> rw[hq] at hpl;simp at hpl
  |cons a b=> exact⟨a,b,rfl⟩
 rw[gp] at hf hpl fe;simp only[List.headD_cons,List.tail_cons] at hf;have po:pt.length=ks.length:=by simpa using hpl
 have zo: ∀p∈p0::pt,p.length<=2:=by
  rw[<-gp];rcases q55 j7 with h|h|h|h|h|h|h|h|h|h|h|h|h|h|h|h <;>(rw[h];decide)
 have U5:=hdq (fun W (hW:EnvM W)=> j204 sh 46 (p0::pt) fe W hW (by omega));have HF:=hdq hf;have HPL:=hdq po;have Du:=hdq zo;have e1:(k==1)=false:=beq_eq_false_iff_ne.2 c1;have e2':(k==2)=false:=beq_eq_false_iff_ne.2 c2;have hz1:(0:Int) <(ks.length:Int)+1:=by omega
 obtain⟨R,hR⟩: ∃R,fmtL (.mk k n ks)=R:=⟨_,rfl⟩;rw[hR] at HF Hy⊢;have Gz:R.length<=5000:=by omega
 have HK:=hdq hk;have xn:=hdq hsk;clear hf hpl fe po zo gp hR hs1 hs2 j7 hk hsk hsh c1 c2;go_enter Tryz.func28,Tryz.ntmps28;go_wp2_with fail
 go_region_law (first|(go_simp;go_at_call 53;refine(bk.out _).mono ?_;rintro e w2 ⟨b,rfl,cw,e2⟩;obtain⟨s0,s1,s2,-,-,-⟩:=own3 (e2.blk ((xr _).drew.blk ia))))
 all_goals(
  have hx2:=(hx.trans (xr _).drew).trans e2;have hb2:=e2.blk ((xr _).drew.blk ia);clear ia;go_wp2_with fail;refine(U5.out _ (hW.ext hx2)).mono ?_;rintro e w3 ⟨bp,rfl,nb,hbp,hbp3,e3⟩;have hx3:=hx2.trans e3;obtain⟨z0,z1,z2,-,-,-⟩:=own3 (e3.blk hb2);have hc0:=nb 0 (by simp);simp only[List.getElem_cons_zero,List.length_cons,HPL.out] at hc0 nb⊢;have Fw:=hdq nb;clear nb hb2 s0 s1 s2 cw;go_wp2_with fail
  go_loopw [5,35] (fun o i wr=> ∃(j:Nat) (y:List UInt8),j<=ks.length/\i= .int .i64 j/\o= .string (ofL y)/\y.length<=5000/\Hid (y++catP fmtL (pt.drop j) (ks.drop j)=R)/\Ext w3 wr) (fun _ i _=> ks.length -(intOf i).toNat)
  case atStart=> exact⟨0,p0,Nat.zero_le _,rfl,rfl,by have:=Du.out p0 (by simp);omega,hdq (by simpa using HF.out.symm),xr _⟩
  case round=>
   obtain⟨j,y,hj,rfl,rfl,hyl,HY,aj⟩:=hrel;by_cases hlt:j < ks.length
   · obtain⟨b1,o1,k1,n1,A1,c1,i7,rfl,G4,d0,d1,d2,I6,G9,I9,y8,j6⟩:=hK.get (hx3.trans aj) hlt
     have Me:j < pt.length:=by rw[HPL.out];exact hlt
     have hst:=y188 (f:=fmtL) hlt Me;rw[G4.out] at hst;have Jc:w3.cell? ⟨bp,j+1,none⟩=some (.string (ofL pt[j])):=by
      have:=Fw.out (j+1) (by omega)
      simpa using this
     have Ez:pt[j].length<=2:=Du.out _ (List.mem_cons_of_mem _ (List.getElem_mem Me));have hcm:=q16 j6;have Z1:=j22 (.mk k1 n1 i7);have HCC:=hdq (fun W (hWW:EnvM W) (hL:Lies W (.mk k1 n1 i7) (.agg #[.int .i64 k1,.int .i64 n1,.slice A1 i7.length c1]))=> HK.out _ j6 W _ (d - 1) hWW (xn.out _ j6) (by omega) hL);have y7:(fmtL (.mk k1 n1 i7)).length<=5000:=by omega
     obtain⟨x,Fx⟩: ∃x,x=fmtL (.mk k1 n1 i7):=⟨_,rfl⟩;obtain⟨pp,gp⟩: ∃pp,pp=pt[j]:=⟨_,rfl⟩;rw[<-Fx] at hst HCC y7;rw[<-gp] at hst Jc Ez;have HY2:=hdq (show(y++(x++pp))++catP fmtL (pt.drop (j+1)) (ks.drop (j+1))=R by rw[<-HY.out,hst];simp);have hyy:(y++(x++pp)).length<=5000:=by
      have:=congrArg List.length HY2.out;rw[List.length_append] at this;omega
     have q1:=j27 hyl;have q2:=j27 y7;have q3:=j27 Ez;have g1: ¬(9223372036854775807 <(ofL x).size+(ofL pp).size):=by omega
     have g2: ¬(9223372036854775807 <(ofL y).size+((ofL x).size+(ofL pp).size)):=by omega
     have nj:(0:Int)<=(j:Int)+1:=by omega
     have yr:(j:Int) <(ks.length:Int):=by omega
     have Hs:IntKind.i64.wrap ((j:Int)+1)=(j:Int)+1:=IntWalk.i64_in _ ⟨by omega,by omega⟩;have S9:(j:Int)+1 <(ks.length:Int)+1:=by omega
     clear hst G4 Fx gp Z1 HY J2 pz Hy Me;go_wp2_with fail;have hE:=(xr wr).alloc (.cells #[.int .i64 k1,.int .i64 n1,.slice A1 i7.length c1] 26);have sr:=heap_alloc_new wr (.cells #[.int .i64 k1,.int .i64 n1,.slice A1 i7.length c1] 26);have td:=(aj.trans hE).cell Jc;have hL7:=y8.ext hE;have hX7:=(hx3.trans aj).trans hE;have qp:=aj.trans hE;generalize wr.alloc _=w7 at hE sr td hL7 hX7 qp⊢;have HS:=hdq (show∀w',Ext w7 w'->w'.cell? ⟨wr.heap.size,0,none⟩=some (.int .i64 k1)/\w'.cell? ⟨wr.heap.size,1,none⟩=some (.int .i64 n1)/\w'.cell? ⟨wr.heap.size,2,none⟩=some (.slice A1 i7.length c1)/\w'.cell? ⟨bp,j+1,none⟩=some (.string (ofL pp)) from fun w' hw=> by
      obtain⟨y0,y1,y2,-,-,-⟩:=own3 (hw.blk sr);exact⟨y0,y1,y2,hw.cell td⟩)
     have hD:Ext w7 w7.drew:=(xr w7).drew;clear sr td Jc d0 d1 d2 y8 z0 z1 z2
     go_region_held3 (fun w'=> w'.cell? ⟨wr.heap.size,0,none⟩=some (.int .i64 k1)/\w'.cell? ⟨wr.heap.size,1,none⟩=some (.int .i64 n1)/\w'.cell? ⟨wr.heap.size,2,none⟩=some (.slice A1 i7.length c1)/\w'.cell? ⟨bp,j+1,none⟩=some (.string (ofL pp)))
      (first|exact HS.out _ (hD.trans ed) |exact HS.out _ hD)
      (first|(go_at_call 28;refine(HCC.out _ (hW.ext (hX7.trans hD)) (hL7.ext hD)).mono ?_;rintro e wd ⟨rfl,ed⟩))
     all_goals(
      go_wp2_with fail
      go_roundw
      case rel=> exact⟨j+1,y++(x++pp),by omega,by go_num,by rw[<-y13,<-y13],hyy,HY2,(qp.trans hD).trans ed⟩
      case measure=> simp[intOf];omega)
   · have hyR:y=R:=by
      rw[<-HY.out,q214 (by omega)];simp
     have HYR:=hdq hyR;clear hyR;go_wp2_with fail;go_ret;exact⟨by rw[<-HYR.out];rfl,hx3.trans aj⟩)
end Go.Proofs.YtbnkbepgmenblaaGreatDoor
namespace Go.Proofs.YtbnkbepgmenblaaGreatDoor
open Go.RowKit
abbrev An:=Option (Tr×Int)
def thn(x:An)(f:Tr->An):An:=match x with
 |none=> none
 |some (s,c)=> if c=0 then f s else some (y14,c)
def mkV(t:Tr):Tr×Int:=if valid sigT t=true then(t,0) else(y14,2)
def cvtV(a b:Tr):Int:=if j94 a b 200=1 then 0 else if j94 a b 200=2 then 1 else 2
def shpV(t:Tr)(kind:Int):Tr×Int:=if(hnfV t 200).2≠0 then(y14,2) else if(hnfV t 200).1.kind≠kind then(y14,1) else((hnfV t 200).1,0)
def frmV(x:An)(kind:Int):An:=thn x fun s=> some (shpV s kind)
def chkV(x:An)(want:Tr)(y:An):An:=thn x fun s=> if cvtV s want=0 then y else some (y14,cvtV s want)
def natT:Tr:= .mk 6 0 []
def srtT(n:Int):Tr:= .mk 2 n []
def varT(n:Int):Tr:= .mk 1 n []
def stpT(p:Tr):Tr:= .mk 3 0 [natT,.mk 3 0 [.mk 5 0 [shfT 1 p 0,varT 0],.mk 5 0 [shfT 2 p 0,.mk 8 0 [varT 1]]]]
def famV(x:An)(T:Tr)(y:An):An:=thn (frmV x 3) fun s=> if cvtV (kd s.kids 0) T=0 then thn (some (shpV (kd s.kids 1) 2)) fun _=> y else some (y14,cvtV (kd s.kids 0) T)
def arrV(ty:Nat->An):An:=thn (frmV (ty 0) 2) fun a=> thn (frmV (ty 1) 2) fun b=> some (srtT (max a.num b.num),0)
def lamV(inf:Tr->An)(ty:Nat->An)(A:Tr):An:=thn (frmV (ty 0) 2) fun _=> thn (ty 1) fun b=> thn (some (mkV (.mk 3 0 [A,b]))) fun out=> thn (inf out) fun _=> some (out,0)
def appV(ty:Nat->An)(a:Tr):An:=thn (frmV (ty 0) 3) fun s=> chkV (ty 1) (kd s.kids 0) (some (mkV (sbsT a (kd s.kids 1) 0 0)))
def elmV(ty:Nat->An)(p a:Tr):An:=famV (ty 0) natT (thn (some (mkV (.mk 5 0 [p,.mk 7 0 []]))) fun w=> chkV (ty 1) w (thn (some (mkV (stpT p))) fun w2=> chkV (ty 2) w2 (chkV (ty 3) natT (some (mkV (.mk 5 0 [p,a]))))))
def idnV(ty:Nat->An)(T:Tr):An:=thn (frmV (ty 0) 2) fun s=> chkV (ty 1) T (chkV (ty 2) T (some (srtT s.num,0)))
def rflV(inf:Tr->An)(ty:Nat->An)(a:Tr):An:=thn (ty 0) fun s=> thn (frmV (inf s) 2) fun _=> some (mkV (.mk 10 0 [s,a,a]))
def movV(ty:Nat->An)(p:Tr):An:=thn (frmV (ty 1) 10) fun e=> famV (ty 0) (kd e.kids 0) (thn (some (mkV (.mk 5 0 [p,kd e.kids 1]))) fun w=> chkV (ty 2) w (some (mkV (.mk 5 0 [p,kd e.kids 2]))))
def parV(ty:Nat->An)(T a:Tr):An:=thn (frmV (ty 0) 2) fun _=> thn (some (shpV T 13)) fun s=> chkV (ty 1) (kd s.kids 0) (thn (some (mkV (sbsT a (kd s.kids 1) 0 0))) fun w=> chkV (ty 2) w (some (T,0)))
def prtV(ty:Nat->An)(k:Int)(a:Tr):An:=thn (frmV (ty 0) 13) fun s=> if k=15 then some (kd s.kids 0,0) else some (mkV (sbsT (.mk 15 0 [a]) (kd s.kids 1) 0 0))
def lkV(G:List Tr)(n:Int):Tr×Int:=if(G.length:Int)<=n then(y14,1) else mkV (shfT (n+1) (kd G (G.length - 1 - n.toNat)) 0)
def judV(G:List Tr)(inf:Tr->An)(ty:Nat->An)(k n:Int)(ks:List Tr):An:=
 if k=1 then some (lkV G n)
 else if k=2 then some (if n=3 then(y14,1) else(srtT (n+1),0))
 else if k=6 then some (srtT 0,0)
 else if k=7 then some (natT,0)
 else if k=8 then chkV (ty 0) natT (some (natT,0))
 else if k=3\/k=13 then arrV ty
 else if k=4 then lamV inf ty (kd ks 0)
 else if k=5 then appV ty (kd ks 1)
 else if k=9 then elmV ty (kd ks 0) (kd ks 3)
 else if k=10 then idnV ty (kd ks 0)
 else if k=11 then rflV inf ty (kd ks 0)
 else if k=12 then movV ty (kd ks 0)
 else if k=14 then parV ty (kd ks 0) (kd ks 1)
 else prtV ty k (kd ks 0)
def tyV(inf:List Tr->Tr->An)(G:List Tr)(k:Int)(ks:List Tr)(i:Nat):An:=
 if und k i=0 then inf G (kd ks i) else if 20<=G.length then some (y14,2) else inf (G++ [kd ks 0]) (kd ks i)
def infV:Nat->List Tr->Tr->An
 |0,_,_=> none
 |f+1,G,.mk k n ks=> judV G (infV f G) (tyV (infV f) G k ks) k n ks
theorem y28{x:An}{f:Tr->An}{r:Tr×Int}(h:thn x f=some r):(∃s,x=some (s,0)/\f s=some r)\/ ∃s c,x=some (s,c)/\c≠0/\r=(y14,c):=by
 unfold thn at h;cases x with
 |none=> cases h
 |some y=>
  obtain⟨s,c⟩:=y;simp only at h
  split at h
  · rename_i hc
    subst hc;exact .inl ⟨s,rfl,h⟩
  · rename_i hc
    exact .inr ⟨s,c,rfl,hc,by simpa using h.symm⟩
theorem q17{x:An}{f:Tr->An}{u:Tr}(h:thn x f=some (u,0)): ∃s,x=some (s,0)/\f s=some (u,0):=by
 rcases y28 h with h|⟨s,c,-,hc,h⟩
 · exact h
 · simp only[Prod.mk.injEq] at h
   exact absurd h.2.symm hc
theorem j67{y:Tr×Int}{f:Tr->An}{u:Tr}(h:thn (some y) f=some (u,0)):y.2=0/\f y.1=some (u,0):=by
 obtain⟨s,h1,h2⟩:=q17 h;simp only[Option.some.injEq] at h1;subst h1;exact⟨rfl,h2⟩
theorem j84{t:Tr}(h:(mkV t).2=0):valid sigT t=true/\(mkV t).1=t:=by
 unfold mkV at h⊢
 split at h
 · rename_i hv
   exact⟨hv,by rw[if_pos hv]⟩
 · simp at h
theorem y37{t u:Tr}(h:some (mkV t)=some (u,(0:Int))):valid sigT t=true/\u=t:=by
 have h1:mkV t=(u,0):=by simpa using h
 obtain⟨h2,h3⟩:=j84 (t:=t) (by rw[h1]);rw[h1] at h3;exact⟨h2,h3⟩
theorem j116{t:Tr}{kind:Int}(h:(shpV t kind).2=0):hnfV t 200=((shpV t kind).1,0)/\(shpV t kind).1.kind=kind:=by
 unfold shpV at h⊢
 split at h
 · simp at h
 · rename_i h1
   split at h
   · simp at h
   · rename_i h2
     rw[if_neg h1,if_neg h2];exact⟨by rw[<-show(hnfV t 200).2=0 by simpa using h1],by simpa using h2⟩
theorem y47{x:An}{kind:Int}{s:Tr}(h:frmV x kind=some (s,0)): ∃u,x=some (u,0)/\hnfV u 200=(s,0)/\s.kind=kind:=by
 obtain⟨u,h1,h2⟩:=q17 h;have h3:shpV u kind=(s,0):=by simpa using h2
 obtain⟨h4,h5⟩:=j116 (t:=u) (kind:=kind) (by rw[h3]);rw[h3] at h4 h5;exact⟨u,h1,h4,h5⟩
theorem y34{x y:An}{want u:Tr}(h:chkV x want y=some (u,0)): ∃s,x=some (s,0)/\cvtV s want=0/\y=some (u,0):=by
 obtain⟨s,h1,h2⟩:=q17 h
 split at h2
 · rename_i hc
   exact⟨s,h1,hc,h2⟩
 · rename_i hc
   simp only[Option.some.injEq,Prod.mk.injEq] at h2;exact absurd h2.2 hc
theorem y138{x y:An}{T u:Tr}(h:famV x T y=some (u,0)): ∃F s c,x=some (F,0)/\hnfV F 200=(s,0)/\s.kind=3/\cvtV (kd s.kids 0) T=0/\hnfV (kd s.kids 1) 200=(c,0)/\c.kind=2/\y=some (u,0):=by
 obtain⟨s,h1,h2⟩:=q17 h;obtain⟨F,h3,h4,h5⟩:=y47 h1
 split at h2
 · rename_i hc
   obtain⟨h6,h7⟩:=j67 h2;obtain⟨h8,h9⟩:=j116 h6;exact⟨F,s,_,h3,h4,h5,hc,h8,h9,h7⟩
 · rename_i hc
   simp only[Option.some.injEq,Prod.mk.injEq] at h2;exact absurd h2.2 hc
theorem cvtV_ok{a b:Tr}(h:cvtV a b=0):j94 a b 200=1:=by
 unfold cvtV at h
 split at h
 · assumption
 · split at h <;> simp at h
theorem j55{t x:Tr}(h:valid sigT t=true)(hm:x∈t.kids):valid sigT x=true:=by
 obtain⟨k,n,ks⟩:=t;obtain⟨h1,h2⟩:=y11 h;have h3:=(j11 h1).2.2.2 x hm;unfold valid;rw[q59 h3 (by omega),Bool.true_and,decide_eq_true_eq];have:=q16 hm;simp only[cnt] at h2;simp only[Tr.kids] at this;omega
theorem j37{t:Tr}(h:valid sigT t=true){i:Nat}(hi:i < t.kids.length):valid sigT (kd t.kids i)=true:=j55 h (q77 hi)
end Go.Proofs.YtbnkbepgmenblaaGreatDoor
