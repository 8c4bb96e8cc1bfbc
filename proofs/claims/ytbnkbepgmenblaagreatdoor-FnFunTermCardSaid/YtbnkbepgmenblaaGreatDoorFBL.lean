/-
  Lemmas towards the law, 38: InfJ, InfV, InfK, InfL, InfM, InfN.
-/
import Derived.Test.YtbnkbepgmenblaaGreatDoorFBJ
import Derived.Test.YtbnkbepgmenblaaGreatDoorFBK
set_option linter.unusedVariables false
set_option maxHeartbeats 8000000
set_option maxRecDepth 100000
namespace Go.Proofs.YtbnkbepgmenblaaGreatDoor
open Go.RowKit
theorem q148{k:Int}{m:Nat}(h:opsT k=(m:Int)):(k=1/\m=0)\/(k=2/\m=0)\/(k=3/\m=2)\/(k=4/\m=2)\/(k=5/\m=2)\/(k=6/\m=0)\/(k=7/\m=0)\/(k=8/\m=1)\/(k=9/\m=4)\/(k=10/\m=3)\/(k=11/\m=1)\/(k=12/\m=3)\/(k=13/\m=2)\/(k=14/\m=3)\/(k=15/\m=1)\/(k=16/\m=1):=by
 by_cases hk:1<=k/\k<=16
 · rcases(by omega:k=1\/k=2\/k=3\/k=4\/k=5\/k=6\/k=7\/k=8\/k=9\/k=10\/k=11\/k=12\/k=13\/k=14\/k=15\/k=16) with rfl|rfl|rfl|rfl|rfl|rfl|rfl|rfl|rfl|rfl|rfl|rfl|rfl|rfl|rfl|rfl
   all_goals(simp[opsT] at h⊢;omega)
 · have e:opsT k= -1:=by
    unfold opsT
    repeat rw[if_neg (by omega)]
   omega
theorem q153{wC:World}{p1 p2:Nat}{A:Option Addr}{G:List Tr}{At:Option Addr}{ks:List Tr}{ty:Nat->An}(k n:Int)(ca ct:Nat)(hlt:ks.length<=ct)(p9:ct<=maxLen)(w0:World)(N:Nat->Prop)(hJ:JOk wC w0 N p1 p2 A G At ks ty)(inf:Tr->An)(hI:InfF wC A ca G inf)(ay:valid sigT (.mk k n ks)=true)(gl: ∀x∈G,valid sigT x=true)(N8:G.length<=ca)(hcm:ca<=maxLen)(Gw: ∀i s,i < ks.length->ty i=some (s,0)->valid sigT s=true)
 (r:Tr×Int) (h:judV G inf ty k n ks=some r):Calls Tryz.prog 69 #[.agg #[.slice A G.length ca,.int .i64 k,.int .i64 n,.slice At ks.length ct,.func (.func 67) #[] #[.pointer (some ⟨p1,0,none⟩),.pointer (some ⟨p2,0,none⟩)]]] w0 (AnQ N w0 r):=by
 obtain⟨ho,H7,I0,-⟩:=j11 (y11 ay).1;have rz: ∀i,i < ks.length->valid sigT (kd ks i)=true:=fun i hi=> j37 (t:= .mk k n ks) ay hi
 unfold judV at h;rcases q148 (show opsT k=(ks.length:Int) from ho) with⟨rfl,hm⟩ |⟨rfl,hm⟩ |⟨rfl,hm⟩ |⟨rfl,hm⟩ |⟨rfl,hm⟩ |⟨rfl,hm⟩ |⟨rfl,hm⟩ |⟨rfl,hm⟩ |⟨rfl,hm⟩ |⟨rfl,hm⟩ |⟨rfl,hm⟩ |⟨rfl,hm⟩ |⟨rfl,hm⟩ |⟨rfl,hm⟩ |⟨rfl,hm⟩ |⟨rfl,hm⟩
 · exact q209 n ca ct hlt p9 w0 N hJ H7 I0 gl N8 hcm r (by simpa using h)
 · exact j216 n ca ct hlt p9 w0 N hJ H7 I0 r (by simpa using h)
 · exact y203 n ca ct hlt p9 w0 N hJ hm r (by simpa using h)
 · exact j207 n ca ct hlt p9 w0 N hJ inf hI hm r (by simpa using h)
 · exact y210 n ca ct hlt p9 w0 N hJ hm (rz 1 (by omega)) r (by simpa using h)
 · exact j194 n ca ct hlt p9 w0 N hJ r (by simpa using h)
 · exact y209 n ca ct hlt p9 w0 N hJ r (by simpa using h)
 · exact j213 n ca ct hlt p9 w0 N hJ hm r (by simpa using h)
 · exact y215 n ca ct hlt p9 w0 N hJ hm (rz 0 (by omega)) r (by simpa using h)
 · exact q186 n ca ct hlt p9 w0 N hJ hm r (by simpa using h)
 · exact y164 n ca ct hlt p9 w0 N hJ inf hI hm (fun s hs=> Gw 0 s (by omega) hs) r (by simpa using h)
 · exact y168 n ca ct hlt p9 w0 N hJ hm r (by simpa using h)
 · exact j193 n ca ct hlt p9 w0 N hJ hm r (by simpa using h)
 · exact y179 n ca ct hlt p9 w0 N hJ hm (rz 1 (by omega)) r (by simpa using h)
 · exact q184 n ca ct hlt p9 w0 N hJ hm ay r (by simpa using h)
 · exact j162 n ca ct hlt p9 w0 N hJ hm ay r (by simpa using h)
theorem y54{m:Int}(h0:0<=m)(h3:m<=3):valid sigT (srtT m)=true:=by
 rcases(by omega:m=0\/m=1\/m=2\/m=3) with rfl|rfl|rfl|rfl <;> decide+kernel
theorem y126:valid sigT natT=true:=by decide+kernel
theorem j69{x:An}{s:Tr}(h:frmV x 2=some (s,0)):0<=s.num/\s.num<=3:=by
 obtain⟨hk,-,hv⟩:=q82 h;obtain⟨k,n,ks⟩:=s;obtain⟨-,h1,h2,-⟩:=j11 (y11 hv).1;rw[show k=2 from hk] at h2;exact⟨h1,h2⟩
theorem y20{X:Tr×Int}{u:Tr}(h:some X=some (u,(0:Int)))(hX:X.2=0->valid sigT X.1=true):valid sigT u=true:=by
 have e:X=(u,0):=by simpa using h
 have:=hX (by rw[e])
 rwa [e] at this
theorem q44(X:Tr):(mkV X).2=0->valid sigT (mkV X).1=true:=fun h=> by
 obtain⟨h1,h2⟩:=j84 h;rw[h2];exact h1
theorem y152{G:List Tr}{inf:Tr->An}{ty:Nat->An}{k n:Int}{ks:List Tr}{u:Tr}(hv:valid sigT (.mk k n ks)=true)(h:judV G inf ty k n ks=some (u,0)):valid sigT u=true:=by
 obtain⟨ho,H7,I0,-⟩:=j11 (y11 hv).1;have rz: ∀i,i < ks.length->valid sigT (kd ks i)=true:=fun i hi=> j37 (t:= .mk k n ks) hv hi
 unfold judV at h;rcases q148 (show opsT k=(ks.length:Int) from ho) with⟨rfl,hm⟩ |⟨rfl,hm⟩ |⟨rfl,hm⟩ |⟨rfl,hm⟩ |⟨rfl,hm⟩ |⟨rfl,hm⟩ |⟨rfl,hm⟩ |⟨rfl,hm⟩ |⟨rfl,hm⟩ |⟨rfl,hm⟩ |⟨rfl,hm⟩ |⟨rfl,hm⟩ |⟨rfl,hm⟩ |⟨rfl,hm⟩ |⟨rfl,hm⟩ |⟨rfl,hm⟩
 · have h:some (lkV G n)=some (u,0):=by simpa using h
   refine y20 h fun h0=> ?_
   unfold lkV at h0⊢
   split at h0
   · simp at h0
   · rename_i hh
     rw[if_neg hh];exact q44 _ h0
 · have h:some (if n=3 then(y14,1) else(srtT (n+1),(0:Int)))=some (u,0):=by simpa using h
   refine y20 h fun h0=> ?_
   split at h0
   · simp at h0
   · rename_i hh
     rw[if_neg hh];have:j15 2=3:=rfl;have:n<=j15 2:=I0;exact y54 (by omega) (by omega)
 · have h:arrV ty=some (u,0):=by simpa using h
   obtain⟨a,h1,h⟩:=q17 h;obtain⟨b,h2,h⟩:=q17 h;have:=j69 h1;have:=j69 h2;refine y20 h fun _=> y54 (by show 0<=max a.num b.num;omega) (by show max a.num b.num<=3;omega)
 · have h:lamV inf ty (kd ks 0)=some (u,0):=by simpa using h
   obtain⟨a,h1,h⟩:=q17 h;obtain⟨b,h2,h⟩:=q17 h;obtain⟨o,h3,h⟩:=q17 h;obtain⟨q,h4,h⟩:=q17 h;obtain rfl:o=u:=by simpa using h
   exact y20 h3 (q44 _)
 · have h:appV ty (kd ks 1)=some (u,0):=by simpa using h
   obtain⟨a,h1,h⟩:=q17 h;obtain⟨s,h2,-,h⟩:=y34 h;exact y20 h (q44 _)
 · have h:some (srtT 0,(0:Int))=some (u,0):=by simpa using h
   exact y20 h fun _=> y54 (by decide) (by decide)
 · have h:some (natT,(0:Int))=some (u,0):=by simpa using h
   exact y20 h fun _=> y126
 · have h:chkV (ty 0) natT (some (natT,0))=some (u,0):=by simpa using h
   obtain⟨s,h2,-,h⟩:=y34 h;exact y20 h fun _=> y126
 · have h:elmV ty (kd ks 0) (kd ks 3)=some (u,0):=by simpa using h
   obtain⟨F,s,c,-,-,-,-,-,-,h⟩:=y138 h;obtain⟨w,-,h⟩:=q17 h;obtain⟨s,-,-,h⟩:=y34 h;obtain⟨w,-,h⟩:=q17 h;obtain⟨s,-,-,h⟩:=y34 h;obtain⟨s,-,-,h⟩:=y34 h;exact y20 h (q44 _)
 · have h:idnV ty (kd ks 0)=some (u,0):=by simpa using h
   obtain⟨a,h1,h⟩:=q17 h;obtain⟨s,-,-,h⟩:=y34 h;obtain⟨s,-,-,h⟩:=y34 h;have:=j69 h1;exact y20 h fun _=> y54 this.1 this.2
 · have h:rflV inf ty (kd ks 0)=some (u,0):=by simpa using h
   obtain⟨a,h1,h⟩:=q17 h;obtain⟨b,h2,h⟩:=q17 h;exact y20 h (q44 _)
 · have h:movV ty (kd ks 0)=some (u,0):=by simpa using h
   obtain⟨a,h1,h⟩:=q17 h;obtain⟨F,s,c,-,-,-,-,-,-,h⟩:=y138 h;obtain⟨w,-,h⟩:=q17 h;obtain⟨s,-,-,h⟩:=y34 h;exact y20 h (q44 _)
 · have h:arrV ty=some (u,0):=by simpa using h
   obtain⟨a,h1,h⟩:=q17 h;obtain⟨b,h2,h⟩:=q17 h;have:=j69 h1;have:=j69 h2;refine y20 h fun _=> y54 (by show 0<=max a.num b.num;omega) (by show max a.num b.num<=3;omega)
 · have h:parV ty (kd ks 0) (kd ks 1)=some (u,0):=by simpa using h
   obtain⟨a,h1,h⟩:=q17 h;obtain⟨b,h2,h⟩:=q17 h;obtain⟨s,-,-,h⟩:=y34 h;obtain⟨w,-,h⟩:=q17 h;obtain⟨s,-,-,h⟩:=y34 h;exact y20 h fun _=> rz 0 (by omega)
 · have h:prtV ty 15 (kd ks 0)=some (u,0):=by simpa using h
   obtain⟨s,h1,h⟩:=q17 h;rw[if_pos rfl] at h;obtain⟨-,hl,nk⟩:=q82 h1;have:opsT 13=2:=rfl;exact y20 h fun _=> j37 nk (by omega)
 · have h:prtV ty 16 (kd ks 0)=some (u,0):=by simpa using h
   obtain⟨s,h1,h⟩:=q17 h;rw[if_neg (by decide)] at h;exact y20 h (q44 _)
theorem y81{f:Nat}{G:List Tr}{t u:Tr}(hv:valid sigT t=true)(h:infV f G t=some (u,0)):valid sigT u=true:=by
 cases f with
 |zero=> cases h
 |succ f=>
  obtain⟨k,n,ks⟩:=t;exact y152 hv h
end Go.Proofs.YtbnkbepgmenblaaGreatDoor
namespace Go.Proofs.YtbnkbepgmenblaaGreatDoor
open Go.RowKit
attribute [local go_sem ↓] Go.wp_at_zero Go.wp_at_succ
theorem y174{f:Nat}{G:List Tr}{k n:Int}{ks:List Tr}(hv:valid sigT (.mk k n ks)=true){i:Nat}{s:Tr}(hi:i < ks.length)(h:tyV (infV f) G k ks i=some (s,0)):valid sigT s=true:=by
 have hk:valid sigT (kd ks i)=true:=j37 (t:= .mk k n ks) hv hi;unfold tyV at h
 split at h
 · exact y81 hk h
 · split at h
   · simp at h
   · exact y81 hk h
def OpQ(w0:World)(N:Nat->Prop)(G:List Tr)(k:Int)(ks:List Tr)(i:Nat)(e:Ending)(w':World):Prop:=
 ∃A' c' H c,e= .returned (.tuple #[.slice A' (H:List Tr).length c',.int .i64 c])/\Ext w0 w'/\((c=2/\H= []/\und k i≠0/\20<=G.length)\/(c=0/\H.length<=c'/\c'<=maxLen/\InK w' N A' H/\((und k i=0/\H=G)\/(und k i≠0/\G.length < 20/\H=G++ [kd ks 0]))))
theorem q185(G:List Tr)(k n:Int)(ks:List Tr)(w0:World)(N:Nat->Prop)(hN: ∀b,w0.heap.size<=b->N b)(A At:Option Addr)(ca ct:Nat)(hG:InK w0 N A G)(hK:InK w0 N At ks)(hlt:ks.length<=ct)(p9:ct<=maxLen)(N8:G.length<=ca)(hcm:ca<=maxLen)(i:Nat)(hi:i < ks.length):
 Calls Tryz.prog 68 #[.slice A G.length ca,.agg #[.int .i64 k,.int .i64 n,.slice At ks.length ct],.int .i64 i] w0 (OpQ w0 N G k ks i):=by
 have X1:=(xr w0).alloc (.cells #[.int .i64 k,.int .i64 n,.slice At ks.length ct] 26);have B1:=heap_alloc_new w0 (.cells #[.int .i64 k,.int .i64 n,.slice At ks.length ct] 26);obtain⟨w1,i6⟩: ∃x,x=w0.alloc (.cells #[.int .i64 k,.int .i64 n,.slice At ks.length ct] 26):=⟨_,rfl⟩;rw[<-i6] at X1 B1;obtain⟨b,o,rfl,u7⟩:=InK.kid hK (by omega);obtain⟨k1,k2,k3,k4,k5,h0,h1,h2,hT⟩:=u7 0 (by omega);simp only[Nat.mul_zero,Nat.add_zero] at h0 h1 h2;have HT:=hdq hT;have HG:=hdq hG;have HN:=hdq hN;have HU:=hdq (fun W=> j50 k i W);unfold OpQ;have wx:(0:Int) <(ks.length:Int):=by omega
 have bl:0 < ks.length:=by omega
 clear u7 hT hG hK hN;have Mc:=X1.cell h0;have Hj:=X1.cell h1;have xl:=X1.cell h2;clear h0 h1 h2;obtain⟨z0,z1,z2,-,-,-⟩:=own3 B1;obtain⟨u,hu⟩: ∃u,u=und k i:=⟨_,rfl⟩;rw[<-hu] at HU⊢;clear hu;by_cases h:u=0
 · have t1:(u==0)=true:=by simp[h]
   go_enter Tryz.func68,Tryz.ntmps68;go_wp2_with fail;rw[<-i6];clear i6;refine(HU.out w1).mono ?_;rintro e w2 ⟨rfl,rfl⟩;go_wp2_with fail;go_ret2;exact⟨A,ca,G,0,rfl,X1,.inr ⟨rfl,N8,hcm,HG.out.later X1,.inl ⟨h,rfl⟩⟩⟩
 · have t1:(u==0)=false:=by simp[h]
   by_cases hL:20<=G.length
   · go_enter Tryz.func68,Tryz.ntmps68
     go_wp2_with fail;rw[<-i6];clear i6;refine(HU.out w1).mono ?_;rintro e w2 ⟨rfl,rfl⟩;go_wp2_with fail;refine(y127 G (kd ks 0) w1 N A ca _ (HT.out.later X1) hL).mono ?_;rintro e w2 ⟨rfl,e2⟩;go_wp2_with fail;go_ret2;exact⟨none,0, [],2,rfl,X1.trans e2,.inl ⟨rfl,rfl,h,hL⟩⟩
   · go_enter Tryz.func68,Tryz.ntmps68
     go_wp2_with fail;rw[<-i6];clear i6;refine(HU.out w1).mono ?_;rintro e w2 ⟨rfl,rfl⟩;go_wp2_with fail;refine(q100 G (kd ks 0) w1 N (fun b hb=> HN.out b (by have:=X1.size;omega)) A ca _ (HG.out.later X1) (HT.out.later X1) (by omega)).mono ?_;rintro e w2 ⟨A',c',rfl,hc1,hc2,hK2,e2⟩;go_wp2_with fail;go_ret2;exact⟨A',c',G++ [kd ks 0],0,by simp,X1.trans e2,.inr ⟨rfl,by simpa using hc1,hc2,hK2,.inr ⟨h,by omega,rfl⟩⟩⟩
def InfAll(f:Nat):Prop:= ∀(w0:World) (N:Nat->Prop) (A:Option Addr) (ca:Nat) (G:List Tr) (t:Tr) (v:Value) (r:Tr×Int),(∀b,w0.heap.size<=b->N b)->G.length<=ca->ca<=maxLen->InK w0 N A G->(∀x∈G,valid sigT x=true)->G.length<=20->InT w0 N t v->valid sigT t=true->infV f G t=some r->
 Calls Tryz.prog 33 #[.slice A G.length ca,v] w0 (AnQ N w0 r)
theorem j154(f:Nat)(IH:InfAll f)(wC:World)(p1 p2:Nat)(A At:Option Addr)(ca ct:Nat)(G:List Tr)(k n:Int)(ks:List Tr)(V9:wC.heap[p1]? =some (.cells #[.slice A G.length ca] 24 (0,0)))(Hi:wC.heap[p2]? =some (.cells #[.int .i64 k,.int .i64 n,.slice At ks.length ct] 26 (0,0)))(hlt:ks.length<=ct)(p9:ct<=maxLen)(N8:G.length<=ca)(hcm:ca<=maxLen)(gl: ∀x∈G,valid sigT x=true)(hL:G.length<=20)(ay:valid sigT (.mk k n ks)=true):TyF wC p1 p2 A G At ks (tyV (infV f) G k ks):=by
 intro w0 N hx hN hG hK i hi r hr;have rz: ∀x∈ks,valid sigT x=true:=fun x hm=> j55 ay hm
 have Ah:=hdq rz;have yb:=hdq gl;have rj:=hdq IH;have HN:=hdq hN;have HG:=hdq hG;have HK:=hdq hK;have HR:=hdq hr;obtain⟨b,o,rfl,u7⟩:=InK.kid hK (by omega);obtain⟨k1,k2,k3,k4,k5,h0,h1,h2,hT⟩:=u7 i hi;rw[Nat.mul_comm 3 i] at h0 h1 h2;have HT:=hdq hT;have mh:=hx.blk V9;have cm:=hx.blk Hi;have hpi:(i:Int) <(ks.length:Int):=by omega
 clear u7 hT hG hK hN IH rz gl hr ay V9 Hi hx;obtain⟨w1,i6⟩: ∃x,x=(w0.alloc (.cells #[.int .i64 0,.int .i64 0,.slice none 0 0] 26)):=⟨_,rfl⟩;obtain⟨a8,s1,e1⟩:=box1 i6;obtain⟨M,hM⟩: ∃M,M=(fun b=> N b/\b≠w0.heap.size):=⟨_,rfl⟩;have eu:=hdq (show∀b,w1.heap.size<=b->M b from hM▸newN HN.out e1.size (by omega));have Ee:=hdq (show InK w1 M A G from hM▸HG.out.keep e1 (Nat.le_refl _));have Ms:=hdq (show InK w1 M _ ks from hM▸HK.out.keep e1 (Nat.le_refl _));have Pq:=hdq (show InT w1 M (kd ks i) _ from hM▸HT.out.keep e1 (Nat.le_refl _));have HM:=hdq hM;clear hM;have zA:w0.cell? ⟨p1,0,none⟩=some (.slice A G.length ca):=q10 mh 0;have zB0:w0.cell? ⟨p2,0,none⟩=some (.int .i64 k):=q10 cm 0;have zB1:w0.cell? ⟨p2,1,none⟩=some (.int .i64 n):=q10 cm 1;have zB2:w0.cell? ⟨p2,2,none⟩=some (.slice (some ⟨b,o,none⟩) ks.length ct):=q10 cm 2;have lA:=j10 mh;have lB:=j10 cm;go_enter Tryz.func67,Tryz.ntmps67;go_wp2_with fail;rw[<-i6];clear i6;clear zA zB0 zB1 zB2 lA lB;refine(q185 G k n ks w1 M eu.out A _ ca ct Ee.out Ms.out hlt p9 N8 hcm i hi).mono ?_;rintro e w2 ⟨A',c',H,c,rfl,e2,hO⟩;have s2:=e2.size;rcases hO with⟨rfl,rfl,hu,yn⟩ |⟨rfl,hc1,hc2,hK2,hH⟩
 · obtain rfl:r=(y14,2):=by
    have:=HR.out;unfold tyV at this;rw[if_neg hu,if_pos yn] at this
    simpa using this.symm
   clear h0 h1 h2;have a6:=e2;have Zr:=cbr (a6.blk a8);have b7:=e1;have b6:=b7.trans e2;have ZA:=cb1 (b6.blk mh);have ZB:=cb3 (b6.blk cm);go_wp2_with fail;refine bodyPost_ret (v:= .tuple #[.agg #[.int .i64 0,.int .i64 0,.slice none 0 0],.int .i64 2]) (by simp[results,Tryz.results67,go_sem,Zr]) rfl ⟨_,rfl,q19 _ _ 0 0,(b6.set3 (by omega) _ _ _)⟩
 · have HF:Hid (infV f H (kd ks i)=some r/\(∀x∈H,valid sigT x=true)/\H.length<=20):=hdq (by
    have:=HR.out;unfold tyV at this;rcases hH with⟨hu,rfl⟩ |⟨hu,yn,rfl⟩
    · rw[if_pos hu] at this
      exact⟨this,yb.out,hL⟩
    · rw[if_neg hu,if_neg (by omega)] at this
      refine⟨this,fun x hx=> ?_,by simp;omega⟩;rcases List.mem_append.1 hx with hx|hx
      · exact yb.out x hx
      · rw[List.mem_singleton.1 hx]
        exact Ah.out _ (q77 (by omega)))
   have xc:=hdq hK2;clear hH hK2 HR;have b7:=e1;have b6:=b7.trans e2;have Mc:=b6.cell h0;have Hj:=b6.cell h1;have xl:=b6.cell h2;clear h0 h1 h2;have a6:=e2;have Zr:=cbr (a6.blk a8);have ZA:=cb1 (b6.blk mh);have ZB:=cb3 (b6.blk cm);go_wp2_with fail;clear Zr ZA ZB;refine(rj.out w2 M A' c' H (kd ks i) _ r (fun b hb=> eu.out b (by have:=a6.size;omega)) hc1 hc2 xc.out HF.out.2.1 HF.out.2.2 (Pq.out.later a6) (Ah.out _ (q77 hi)) HF.out.1).mono ?_;rintro e w3 ⟨u,rfl,hT,e3⟩;have s3:=e3.size;obtain⟨⟨q1,q2,q3⟩,d⟩:=r;simp only at hT⊢;obtain⟨a2,b2,A2,l2,c2,rfl⟩:=hT.three;have T2:=hdq hT;clear hT HF Mc Hj xl;have j4:=a6.trans e3;have Zr:=cbr (j4.blk a8);have o7:=b6.trans e3;have ZA:=cb1 (o7.blk mh);have ZB:=cb3 (o7.blk cm);go_wp2_with fail;refine bodyPost_ret (v:= .tuple #[.agg #[.int .i64 a2,.int .i64 b2,.slice A2 l2 c2],.int .i64 d]) (by simp[results,Tryz.results67,go_sem,Zr]) rfl ⟨_,rfl,InT.ret (HM.out▸T2.out) _ _ _,(o7.set3 (by omega) _ _ _)⟩
theorem j126: ∀f,InfAll f
 |0=> fun w0 N A ca G t v r hN N8 hcm hG gl hL ht hv hr=> by cases hr
 |f+1=> fun w0 N A ca G t v r hN N8 hcm hG gl hL ht hv hr=> by
  obtain⟨k,n,ks⟩:=t;have HJV:=hdq (show judV G (infV f G) (tyV (infV f) G k ks) k n ks=some r from hr);obtain⟨At,ct,rfl,hlt,p9,hK⟩:=InT.mk_iff.1 ht;have rj:=hdq (j126 f);have HN:=hdq hN;have HG:=hdq hG;have HK:=hdq hK;have HV:=hdq hv;have yb:=hdq gl;clear hN hG hK hv gl ht hr;obtain⟨w1,i6⟩: ∃x,x=(((w0.alloc (.cells #[.slice A G.length ca] 24)).alloc (.cells #[.int .i64 k,.int .i64 n,.slice At ks.length ct] 26)).alloc (.cells #[.int .i64 0,.int .i64 0,.slice none 0 0] 26)):=⟨_,rfl⟩;obtain⟨wl,wj,a8,s1,e1⟩:=box3 i6;obtain⟨M,hM⟩: ∃M,M=(fun b=> N b/\b≠w0.heap.size+1+1):=⟨_,rfl⟩;have eu:=hdq (show∀b,w1.heap.size<=b->M b from hM▸newN HN.out e1.size (by omega));have Ee:=hdq (show InK w1 M A G from hM▸HG.out.keep e1 (by omega));have Ms:=hdq (show InK w1 M At ks from hM▸HK.out.keep e1 (by omega));have HM:=hdq hM;clear hM;have HTF:=hdq (j154 f rj.out w1 _ _ A At ca ct G k n ks wl wj hlt p9 N8 hcm yb.out hL HV.out);have HJ:Hid (JOk w1 w1 M (w0.heap.size) (w0.heap.size+1) A G At ks (tyV (infV f) G k ks)):=hdq ⟨HTF.out,xr _,eu.out,Ee.out,Ms.out⟩;have HI:Hid (InfF w1 A ca G (infV f G)):=hdq (fun W N' hx hN' N7 t' v' Mk hv' r' wz=> rj.out W N' A ca G t' v' r' hN' N8 hcm N7 yb.out hL Mk hv' wz);have yh:Hid (∀i s,i < ks.length->tyV (infV f) G k ks i=some (s,0)->valid sigT s=true):=hdq (fun i s hi hs=> y174 HV.out hi hs);go_enter Tryz.func33,Tryz.ntmps33;go_wp2_with fail;rw[<-i6];clear i6;have ZA:=cb1 wl;have ZB:=cb3 wj;have Zr:=cbr a8;go_wp2_with fail;clear ZA ZB Zr;refine(q153 k n ca ct hlt p9 w1 M HJ.out (infV f G) HI.out HV.out yb.out N8 hcm yh.out r HJV.out).mono ?_;rintro e w2 ⟨u,rfl,hT,e2⟩;have s2:=e2.size;obtain⟨⟨q1,q2,q3⟩,d⟩:=r;simp only at hT⊢;obtain⟨a2,b2,A2,l2,c2,rfl⟩:=hT.three;have T2:=hdq hT;clear hT HJV;have a6:=e2;have ZA:=cb1 (a6.blk wl);have ZB:=cb3 (a6.blk wj);have Zr:=cbr (a6.blk a8);have b7:=e1;have b6:=b7.trans e2;go_wp2_with fail;refine bodyPost_ret (v:= .tuple #[.agg #[.int .i64 a2,.int .i64 b2,.slice A2 l2 c2],.int .i64 d]) (by simp[results,Tryz.results33,go_sem,Zr]) rfl ⟨_,rfl,InT.ret (HM.out▸T2.out) _ _ _,(b6.set3 (by omega) _ _ _)⟩
abbrev AllN:Nat->Prop:=fun _=> True
theorem InK.all{w:World}{A:Option Addr}{ks:List Tr}(h:y23 w A ks):InK w AllN A ks:=InK.mono (fun _ _=> trivial) (fun _ _=> rfl) h
theorem InT.all{w:World}{t:Tr}{v:Value}(h:Lies w t v):InT w AllN t v:=InT.mono (fun _ _=> trivial) (fun _ _=> rfl) h
theorem y166{f:Nat}{w:World}{A:Option Addr}{ca:Nat}{G:List Tr}(N8:G.length<=ca)(hcm:ca<=maxLen)(hv: ∀x∈G,valid sigT x=true)(hL:G.length<=20):InfF w A ca G (infV f G):=
 fun W N hx hN hG t v ht Hc r hr=> j126 f W N A ca G t v r hN N8 hcm hG hv hL ht Hc hr
theorem j120(f:Nat)(ks:List Tr)(w:World)(A:Option Addr)(cap:Nat)(hK:y23 w A ks)(hl:ks.length<=cap)(hc:cap<=maxLen)(r:Tr×Int)(h:ccV f ks=some r):
 Calls Tryz.prog 64 #[.slice A ks.length cap] w fun e w'=> e= .returned (.int .i64 r.2)/\Ext w w':=by
 have hcc:=hc;unfold maxLen at hcc;by_cases h8:ks.length<=8
 · have d8:decide ((8:Int) <(ks.length:Int))=false:=decide_eq_false (by omega)
   have H3:Hid (∀t∈ks,valid sigT t=false->r.2=3):=hdq fun t ht hv=> by
    have:j63 ks=false:=by
     unfold j63;rw[Bool.and_eq_false_iff];refine .inr ?_;simp only[Bool.not_eq_false',List.any_eq_true];exact⟨t,ht,by simp[hv]⟩
    unfold ccV at h;rw[if_neg (by simp[this])] at h;have e:(y14,(3:Int))=r:=by simpa using h
    rw[<-e]
   have HG:Hid ((∀t∈ks,valid sigT t=true)->ccR f [] ks=some r):=hdq fun hv=> by
    have:j63 ks=true:=by
     unfold j63;rw[Bool.and_eq_true,decide_eq_true_eq];refine⟨h8, ?_⟩;simp only[Bool.not_eq_true',List.any_eq_false];intro t ht;simp[hv t ht]
    unfold ccV at h
    rwa [if_pos this] at h
   clear h;have HK:=hdq hK;go_enter Tryz.func64,Tryz.ntmps64;go_wp2_with fail
   go_loopw [14] (fun i wr=> ∃j:Nat,j<=ks.length/\i= .int .i64 j/\Hid (∀t∈ks.take j,valid sigT t=true)/\Ext w wr) (fun i _=> ks.length -(intOf i).toNat)
   case atStart=> exact⟨0,Nat.zero_le _,rfl,hdq (by simp),xr _⟩
   case round=>
    obtain⟨j,hj,rfl,hval,hx⟩:=hrel;by_cases hlt:j < ks.length
    · obtain⟨b,o,k1,n1,A1,p1,i7,rfl,G4,c0,c1,c2,l1,m1,I9,y8,q9⟩:=hK.get hx hlt
      have hj':(j:Int) <(ks.length:Int):=by omega
      have hE:=hx.alloc (.cells #[.int .i64 k1,.int .i64 n1,.slice A1 i7.length p1] 26);have C5:=(xr wr).alloc (.cells #[.int .i64 k1,.int .i64 n1,.slice A1 i7.length p1] 26);have HV:=hdq (j16 (.mk k1 n1 i7) _ _ (y8.ext C5));go_wp2_with fail;refine HV.out.mono ?_;rintro e w1 ⟨rfl,h1⟩;have hX:=hE.trans h1;obtain⟨vv,Kh⟩: ∃vv,valid sigT (.mk k1 n1 i7)=vv:=⟨_,rfl⟩;rw[Kh];have HVV:=hdq Kh;clear Kh HV c0 c1 c2;cases vv with
      |false=>
       go_wp2_with fail;go_ret;exact⟨by rw[H3.out _ q9 HVV.out];rfl,hX⟩
      |true=>
       have HVL:Hid (∀t∈ks.take (j+1),valid sigT t=true):=hdq fun t ht=> by
        rw[List.take_succ_eq_append_getElem hlt,List.mem_append,List.mem_singleton] at ht;rcases ht with ht|rfl
        · exact hval.out t ht
        · rw[G4.out];exact HVV.out
       go_wp2_with fail
       go_roundw
       case rel=> exact⟨j+1,by omega,by go_num,HVL,hX⟩
       case measure=> simp[intOf];omega
    · have hv: ∀t∈ks,valid sigT t=true:=by
       have:=hval.out
       rwa [List.take_of_length_le (by omega)] at this
      have zj:=hdq hv;have uq:=hdq (HG.out hv);clear hv hval HG H3;go_wp2_with fail
      go_loopw [24] (fun i wr=> ∃j:Nat,j<=ks.length/\i= .int .i64 j/\Hid (ccR f (ks.take j) (ks.drop j)=some r)/\Ext w wr) (fun i _=> ks.length -(intOf i).toNat)
      case atStart=> exact⟨0,Nat.zero_le _,rfl,uq,hx⟩
      case round=>
       obtain⟨i,hi,rfl,HR,hx2⟩:=hrel;by_cases hlt:i < ks.length
       · obtain⟨b,o,k1,n1,A1,p1,i7,rfl,G4,c0,c1,c2,l1,m1,I9,y8,q9⟩:=hK.get hx2 hlt
         have hi':(i:Int) <(ks.length:Int):=by omega
         have K5:(0:Int)<=(i:Int):=by omega
         have hic:(i:Int)<=(cap:Int):=by omega
         have C5:=(xr wr).alloc (.cells #[.int .i64 k1,.int .i64 n1,.slice A1 i7.length p1] 26);have V9:=heap_alloc_new wr (.cells #[.int .i64 k1,.int .i64 n1,.slice A1 i7.length p1] 26);obtain⟨sA,c,h1,h2,h3⟩:=q24 (by
          have:=HR.out;rw[List.drop_eq_getElem_cons hlt,ccR] at this;exact this)
         rw[G4.out] at h1;have H1:=hdq h1;have H2:=hdq h2;have H3:=hdq h3;have ej:=hdq y8;have tv:=hdq (fun(W:World) (hW:Ext wr W)=> q122 (wC:=wr) (y166 (f:=f) (w:=wr) (A:=some ⟨b,o,none⟩) (ca:=cap) (G:=ks.take i) (by simp;omega) hc (fun x hm=> zj.out x (List.mem_of_mem_take hm)) (by simp;omega)) W AllN hW (fun _ _=> trivial) ((InK.all (HK.out.ext (hx2.trans hW))).take i) (.mk k1 n1 i7) _ (InT.all (ej.out.ext hW)) (zj.out _ q9) _ H1.out);rw[show(ks.take i).length=i from by simp;omega] at tv;clear h1 h2 h3 y8 I9 HR;go_wp2_with fail;obtain⟨z0,z1,z2,-,-,-⟩:=own3 V9;have x9:=hdq (show∀w',Ext (wr.alloc (.cells #[.int .i64 k1,.int .i64 n1,.slice A1 i7.length p1] 26)) w'->w'.cell? ⟨wr.heap.size,0,none⟩=some (.int .i64 k1)/\w'.cell? ⟨wr.heap.size,1,none⟩=some (.int .i64 n1)/\w'.cell? ⟨wr.heap.size,2,none⟩=some (.slice A1 i7.length p1) from fun w' h=>⟨h.cell z0,h.cell z1,h.cell z2⟩);obtain⟨q,hq⟩: ∃q,wr.alloc (.cells #[.int .i64 k1,.int .i64 n1,.slice A1 i7.length p1] 26)=q:=⟨_,rfl⟩;rw[hq] at x9 C5 z0 z1 z2;rw[hq];obtain⟨g,hg⟩: ∃g,wr.heap.size=g:=⟨_,rfl⟩;rw[hg] at x9 z0 z1 z2⊢;clear hq hg V9 c0 c1 c2
         go_region_held3 (fun w'=> w'.cell? ⟨g,0,none⟩=some (.int .i64 k1)/\w'.cell? ⟨g,1,none⟩=some (.int .i64 n1)/\w'.cell? ⟨g,2,none⟩=some (.slice A1 i7.length p1))
          (first|exact x9.out _ ((xr _).drew) |exact x9.out _ ((xr _).drew.trans e2))
          (first|(go_at_call 94;refine(tv.out _ (C5.trans (xr _).drew)).mono ?_;rintro e w2 ⟨rfl,e2⟩))
         have hX:=(hx2.trans C5).trans ((xr _).drew.trans e2);clear x9 z0 z1 z2 tv;by_cases hc0:c=0
         · subst hc0
           have U9:=hdq (H2.out rfl);rw[<-List.take_succ_eq_append_getElem hlt] at U9;clear H1 H2 H3;go_wp2_with fail
           go_roundw
           case rel=> exact⟨i+1,by omega,by go_num,U9,hX⟩
           case measure=> simp[intOf];omega
         · have t1:(c !=0)=true:=by simp[hc0]
           have hr:=H3.out hc0;clear H1 H2 H3 hc0;go_wp2_with fail;go_ret;exact⟨by rw[hr];rfl,hX⟩
       · have hr:r=(y14,0):=by
          have:=HR.out;rw[List.drop_of_length_le (by omega)] at this
          simpa[ccR] using this.symm
         go_wp2_with fail;go_ret;exact⟨by rw[hr];rfl,hx2⟩
 · have d8:decide ((8:Int) <(ks.length:Int))=true:=decide_eq_true (by omega)
   have hr:r.2=3:=by
    unfold ccV j63 at h;rw[decide_eq_false h8,Bool.false_and,if_neg (by simp)] at h;have e:(y14,(3:Int))=r:=by simpa using h
    rw[<-e]
   go_enter Tryz.func64,Tryz.ntmps64;go_wp2_with fail;go_ret;exact⟨by rw[hr];rfl,xr _⟩
theorem ready1(t:Tr)(w:World)(v:Value)(j8:Lies w t v):Calls Tryz.prog 66 #[v] w fun e w'=> e= .returned (.bool (!valid sigT t))/\Ext w w':=by
 have HV:=hdq (fun W (hW:Ext w W)=> j16 t W v (j8.ext hW));obtain⟨k,n,ks⟩:=t;obtain⟨A,cap,rfl,hl,hc,hK⟩:=Lies.mk_iff.1 j8;go_enter Tryz.func66,Tryz.ntmps66;go_wp2_with fail;refine(HV.out _ ((xr w).alloc _)).mono ?_;rintro e w1 ⟨rfl,h1⟩;go_wp2_with fail;go_ret;exact⟨rfl,h1.pre⟩
theorem j205(ks:List Tr)(w:World)(A:Option Addr)(cap:Nat)(hl:ks.length<=cap)(hc:cap<=maxLen)(h:y23 w A ks):
 Calls Tryz.prog 95 #[.slice A ks.length cap,.func (.func 66) #[] #[]] w fun e w'=> e= .returned (.int .i64 (q27 (fun t=> !valid sigT t) ks 0))/\Ext w w':=by
 obtain⟨p,hp⟩: ∃p:Tr->Bool,p=fun t=> !valid sigT t:=⟨_,rfl⟩
 have hf: ∀t∈ks,∀w' v,Ext w w'->Lies w' t v->Calls Tryz.prog 66 #[v] w' fun e w''=> e= .returned (.bool (p t))/\Ext w' w'':=fun t _ w' v _ hv=> by rw[hp];exact ready1 t w' v hv
 rw[<-hp];clear hp;unfold maxLen at hc;go_enter Tryz.func95,Tryz.ntmps95;go_wp2_with fail
 go_loopw [8] (fun i wr=> ∃j:Nat,j<=ks.length/\i= .int .i64 j/\q27 p ks 0=q27 p (ks.drop j) j/\Ext w wr) (fun i _=> ks.length -(intOf i).toNat)
 case atStart=> exact⟨0,Nat.zero_le _,rfl,rfl,xr _⟩
 case round=>
  obtain⟨j,hj,rfl,F4,hx⟩:=hrel;have HE:=hdq F4;clear F4;by_cases hlt:j < ks.length
  · obtain⟨b,o,k,n,A',cap',kids,rfl,HK,c0,c1,c2,I6,G9,hK,j8,j6⟩:=h.get hx hlt
    have hst:q27 p (ks.drop j) j=if p (.mk k n kids)=true then(j:Int) else q27 p (ks.drop (j+1)) (j+1):=by
     rw[List.drop_eq_getElem_cons hlt,HK.out];conv=> lhs;unfold q27
    have HF:=hdq (hf _ j6);clear hf;go_wp2_with fail;refine(HF.out wr _ hx j8).mono ?_;rintro e w1 ⟨rfl,h1⟩;generalize p (.mk k n kids)=r at hst;cases r with
    |true=>
     rw[if_pos rfl] at hst;have HT:=hdq hst;clear hst;go_wp2_with fail;go_ret;exact⟨by rw[HE.out,HT.out];rfl,hx.trans h1⟩
    |false=>
     rw[if_neg (by decide)] at hst;have HT:=hdq hst;clear hst;go_wp2_with fail
     go_roundw
     case rel=> exact⟨j+1,by omega,by go_num,by rw[HE.out,HT.out],hx.trans h1⟩
     case measure=> simp[intOf];omega
  · go_wp2_with fail
    go_ret;exact⟨by rw[HE.out,List.drop_of_length_le (by omega)];rfl,hx⟩
theorem q137(ks:List Tr)(w:World)(A:Option Addr)(cap:Nat)(hl:ks.length<=cap)(hc:cap<=maxLen)(h:y23 w A ks):
 Calls Tryz.prog 65 #[.slice A ks.length cap,.func (.func 66) #[] #[]] w fun e w'=> e= .returned (.bool (ks.any (fun t=> !valid sigT t)))/\Ext w w':=by
 have HI:=hdq (j205 ks w A cap hl hc h);have HB:=hdq (q57 (fun t=> !valid sigT t) ks 0);go_enter Tryz.func65,Tryz.ntmps65;go_wp2_with fail;refine HI.out.mono ?_;rintro e w1 ⟨rfl,h1⟩;go_wp2_with fail;go_ret;exact⟨by rw[<-HB.out];rfl,h1⟩
theorem y173(f:Nat)(ks:List Tr)(w:World)(A:Option Addr)(cap:Nat)(hK:y23 w A ks)(hl:ks.length<=cap)(hc:cap<=maxLen)(l:List Tr)(B:Option Addr)(lc:Nat)(hL:y23 w B l)(hll:l.length<=lc)(hlc:lc<=maxLen)(r:Tr×Int)(h:rdyV f ks l=some r):
 Calls Tryz.prog 32 #[.slice A ks.length cap,.slice B l.length lc] w fun e w'=> e= .returned (.int .i64 r.2)/\Ext w w':=by
 obtain⟨q,hq,hr⟩: ∃q,ccV f ks=some q/\(if l.all (fun t=> valid sigT t)=true then some q else some (y14,3))=some r:=by
  unfold rdyV at h;cases e:ccV f ks with
  |none=> rw[e] at h;cases h
  |some q=> rw[e] at h;exact⟨q,rfl,h⟩
 have HC:=hdq (j120 f ks w A cap hK hl hc q hq);have HD:=hdq (fun W (hW:Ext w W)=> q137 l W B lc hll hlc (hL.ext hW));have Cs:(l.any fun t=> !valid sigT t)= !l.all (fun t=> valid sigT t):=by rw[List.not_all_eq_any_not]
 rw[Cs] at HD;generalize l.all (fun t=> valid sigT t)=z at hr HD;have HR:=hdq hr;clear hr Cs hK hL h hq;go_enter Tryz.func32,Tryz.ntmps32;go_wp2_with fail;refine HC.out.mono ?_;rintro e w1 ⟨rfl,h1⟩;go_wp2_with fail;refine(HD.out _ h1).mono ?_;rintro e w2 ⟨rfl,h2⟩;cases z with
 |true=>
  have hr:=HR.out;rw[if_pos rfl] at hr;obtain rfl:q=r:=by simpa using hr
  clear HR hr;go_wp2_with fail;go_ret;exact⟨rfl,h1.trans h2⟩
 |false=>
  have hr:=HR.out;rw[if_neg (by decide)] at hr;obtain rfl:(y14,(3:Int))=r:=by simpa using hr
  clear HR hr;go_wp2_with fail;go_ret;exact⟨rfl,h1.trans h2⟩
theorem q167{w:World}{g:Nat}{e:TypeId}{t:Tr}{v0 v1 v2:Value}(hb:w.heap[g]? =some (.cells #[v0,v1,v2] e (0,0)))(h:Lies w t (.agg #[v0,v1,v2])):y23 w (some ⟨g,0,none⟩) [t]:=
 .inr ⟨g,0,rfl,j10 hb,⟨⟨v0,v1,v2,q10 hb 0,q10 hb 1,q10 hb 2,h⟩,trivial⟩⟩
theorem q169{f:Nat}{ctx l:List Tr}{u:Tr}(h:rdyV f ctx l=some (u,0)):j63 ctx=true:=by
 have:=(q188 h).1;unfold ccV at this
 split at this
 · assumption
 · simp at this
theorem q109(f:Nat)(ctx:List Tr)(A:Option Addr)(ca:Nat)(w0:World)(hG:y23 w0 A ctx)(N8:ctx.length<=ca)(hcm:ca<=maxLen)(t:Tr)(v:Value)(ht:Lies w0 t v)(N:Nat->Prop)(hN: ∀b,w0.heap.size<=b->N b)(r:Tr×Int)(h:itV f ctx t=some r):Calls Tryz.prog 20 #[.slice A ctx.length ca,v] w0 (AnQ N w0 r):=by
 have HN:=hdq hN;clear hN;obtain⟨q1,c,h1,h2,h3⟩:=q24 h;obtain⟨k,n,ks⟩:=t;obtain⟨At,ct,rfl,hl,p9,hK⟩:=Lies.mk_iff.1 ht;have HT:=hdq ht;have HG:=hdq hG;have H1:=hdq h1;have H2:=hdq h2;have H3:=hdq h3;have HCA:=hdq N8;have HCM:=hdq hcm;clear h h1 h2 h3 ht hK hG N8 hcm;obtain⟨w1,i6⟩: ∃x,x=(((w0.alloc (.cells #[.int .i64 k,.int .i64 n,.slice At ks.length ct] 26)).alloc (.cells #[.int .i64 0,.int .i64 0,.slice none 0 0] 26)).alloc (.cells #[.int .i64 k,.int .i64 n,.slice At ks.length ct] 26)):=⟨_,rfl⟩;obtain⟨o6,a8,fx,s1,e1⟩:=box3 i6;obtain⟨M,hM⟩: ∃M,M=(fun b=> N b/\b≠w0.heap.size+1):=⟨_,rfl⟩;have eu:=hdq (show∀b,w1.heap.size<=b->M b from hM▸newN HN.out e1.size (by omega));have HM:=hdq hM;clear hM;go_enter Tryz.func20,Tryz.ntmps20;go_wp2_with fail;rw[<-i6];clear i6;refine(y173 f ctx w1 A ca (HG.out.ext e1) HCA.out HCM.out [.mk k n ks] _ 1 (q167 fx (HT.out.ext e1)) (Nat.le_refl _) (by decide) _ H1.out).mono ?_;rintro e w2 ⟨rfl,e2⟩;have s2:=e2.size;simp only;by_cases hc0:c=0
 case neg=>
  obtain rfl:=H3.out hc0;have t1:(c !=0)=true:=by simp[hc0]
  clear hc0 H1 H2 H3;have a6:=e2;have Zt:=cb3 (a6.blk o6);have Zr:=cbr (a6.blk a8);have Zq:=cb3 (a6.blk fx);have b7:=e1;have b6:=b7.trans e2;go_wp2_with fail;refine bodyPost_ret (v:= .tuple #[.agg #[.int .i64 0,.int .i64 0,.slice none 0 0],.int .i64 c]) (by simp[results,Tryz.results20,go_sem,Zr]) rfl ⟨_,rfl,q19 _ _ 0 0,(b6.set3 (by omega) _ _ _)⟩
 subst hc0;obtain⟨s,d,h4,h5,h6⟩:=q24 (H2.out rfl);have H4:=hdq h4;have H5:=hdq h5;have H6:=hdq h6;clear h4 h5 h6;have HF:=hdq (y183 (q169 H1.out));have HV:=hdq ((q188 H1.out).2 (.mk k n ks) (by simp));have im:=hdq (y166 (f:=f) (w:=w1) (A:=A) HCA.out HCM.out HF.out.2 (by have:=HF.out.1;omega));clear H1 H2 H3;have a6:=e2;have Zt:=cb3 (a6.blk o6);have Zr:=cbr (a6.blk a8);have Zq:=cb3 (a6.blk fx);go_wp2_with fail;clear Zt Zr Zq;have b7:=e1;have b6:=b7.trans e2;refine(im.out w2 AllN a6 (fun _ _=> trivial) (InK.all (HG.out.ext b6)) _ _ (InT.all (HT.out.ext b6)) HV.out _ H4.out).mono ?_;rintro e w3 ⟨u,rfl,hT,e3⟩;have s3:=e3.size;simp only at hT⊢;obtain⟨a1,b1,A1,l1,c1,rfl⟩:=hT.three;have T1:=hdq hT.lies';clear hT;by_cases sf:d=0
 case neg=>
  obtain rfl:=H6.out sf;have t1:(d !=0)=true:=by simp[sf]
  clear sf H4 H5 H6;have j4:=a6.trans e3;have Zt:=cb3 (j4.blk o6);have Zr:=cbn (j4.blk a8);have Zq:=cb3 (j4.blk fx);have Ak:Ext w3 (w3.alloc (.cells #[.int .i64 a1,.int .i64 b1,.slice A1 l1 c1] 26)):=(xr w3).alloc _;have o7:=b6.trans e3;have Pr:=cbn (Ak.blk (j4.blk a8));go_wp2_with fail;refine bodyPost_ret (v:= .tuple #[.agg #[.int .i64 0,.int .i64 0,.slice none 0 0],.int .i64 d]) (by simp[results,Tryz.results20,go_sem,Zr,Pr]) rfl ⟨_,rfl,q19 _ _ 0 0,((o7.trans Ak).set3 (by omega) _ _ _)⟩
 subst sf;obtain rfl:(s,(0:Int))=r:=by simpa using H5.out rfl
 have HSV:=hdq (y81 HV.out H4.out);clear H4 H5 H6;have j4:=a6.trans e3;have Zt:=cb3 (j4.blk o6);have Zr:=cbr (j4.blk a8);have Zq:=cb3 (j4.blk fx);obtain⟨w4,hw4⟩: ∃x,x=w3.alloc (.cells #[.int .i64 a1,.int .i64 b1,.slice A1 l1 c1] 26):=⟨_,rfl⟩;have e4:Ext w3 w4:=hw4▸(xr w3).alloc _;have xb:=heap_alloc_new w3 (.cells #[.int .i64 a1,.int .i64 b1,.slice A1 l1 c1] 26);rw[<-hw4] at xb;have s4:w3.heap.size < w4.heap.size:=j10 xb;go_wp2_with fail;rw[<-hw4];clear hw4;clear Zt Zr Zq;have q8:=e4;refine(j38 s w4 _ (T1.out.ext q8) (by have:=(y11 HSV.out).2;omega)).mono ?_;rintro e w5 ⟨u,rfl,M5,e5⟩;have s5:=e5.size;have j5:=j4.trans e4;obtain⟨a2,b2,A2,l2,c2,rfl⟩:=M5.three;have T2:=hdq (M5.at' (N:=M) (fun b hb=> eu.out b (by have:=j5.size;omega)));clear M5;have r9:=j5.trans e5;have Zt:=cb3 (r9.blk o6);have Zr:=cbr (r9.blk a8);have Zq:=cb3 (r9.blk fx);have E5:=e5;have Zx:=cb3 (E5.blk xb);have o7:=b6.trans e3;have o9:=o7.trans e4;have z7:=o9.trans e5;go_wp2_with fail;refine bodyPost_ret (v:= .tuple #[.agg #[.int .i64 a2,.int .i64 b2,.slice A2 l2 c2],.int .i64 0]) (by simp[results,Tryz.results20,go_sem,Zr]) rfl ⟨_,rfl,InT.ret (HM.out▸T2.out) _ _ _,(z7.set3 (by omega) _ _ _)⟩
end Go.Proofs.YtbnkbepgmenblaaGreatDoor
