/- Part of a proof. -/
import Derived.Test.YtcdkdiedphhdhaaGreatDoorK38
import Derived.Test.YtcdkdiedphhdhaaGreatDoorK40
set_option maxRecDepth 100000
set_option maxHeartbeats 8000000
set_option linter.unusedVariables false
set_option linter.unusedSimpArgs false
open Go.Proofs.Tryz
namespace Go.Proofs.YtcdkdiedphhdhaaGreatDoor
section
open Go Go.RowKit
def InfOk(t:Tr):Prop:=(zb t).2.2=0/\InferAt t t.nodes.length 0
def InfO(t:Tr)(k e:Int):Prop:=e≠0/\(((zb t).2.2≠0/\k=(zb t).2.1/\e=(zb t).2.2)\/((zb t).2.2=0/\∃j:Nat,InferAt t j e/\k=j))
theorem InfOk.no{t:Tr}{k e:Int}(h:InfOk t)(h':InfO t k e):False:=by
 obtain⟨h0,h1|⟨h2,j,h3,-⟩⟩:=h'
 .exact h1.1 h.1
 .exact h0 (h.2.unique h3).2.symm
theorem InfO.unique{t:Tr}{k e k' e':Int}(h:InfO t k e)(h':InfO t k' e'):k=k'/\e=e':=by
 obtain⟨-,⟨h1,h2,h3⟩|⟨h1,j,h2,h3⟩⟩:=h
 .obtain⟨-,⟨g1,g2,g3⟩|⟨g1,j,g2,g3⟩⟩:=h'
  .exact⟨h2.trans g2.symm,h3.trans g3.symm⟩
  .exact absurd g1 h1
 .obtain⟨-,⟨g1,g2,g3⟩|⟨g1,i,g2,g3⟩⟩:=h'
  .exact absurd h1 g1
  .have:=h2.unique g2
   exact⟨by rw[h3,g3,this.1],this.2⟩
theorem BW{t:Tr}(bd:Bd t)(hr:(zb t).2.2=0){f k:Nat}{e:Int}(h:((List.range k).all fun i=>errP t f i==some 0)=true)(hk:(k=t.nodes.length/\e=0)\/(k<t.nodes.length/\e≠0/\errP t f k=some e)):InferAt t k e:=by
 obtain⟨j,x,hj⟩:=BX bd hr
 have hz:∀i,i<k->errP t f i=some 0:=fun i hi=>by
  have:=List.all_eq_true.1 h i (List.mem_range.2 hi);simpa using this
 have same:∀{i:Nat}{a b:Int},ErrAt t i a->errP t f i=some b->a=b:=fun {i a b} ha hb=>by
  obtain⟨g,hg⟩:=ha.prog;have h1:=lY hg (show g<=g+f by omega);rw[lY hb (show f<=g+f by omega)]at h1;exact(Option.some.inj h1).symm
 have e1:j=k:=by
  rcases Nat.lt_trichotomy j k with hl|hl|hl
  .rcases hj.last with⟨h1,_⟩|⟨_,h2,h3⟩
   .rcases hk with⟨h2,_⟩|⟨h2,_⟩<;>omega
   .exact absurd (same h3 (hz j hl)) h2
  .exact hl
  .rcases hk with⟨h1,_⟩|⟨_,h2,h3⟩
   .have:=hj.le;omega
   .exact absurd (same (hj.zero k hl) h3).symm h2
 subst e1
 have e2:x=e:=by
  rcases hk with⟨h1,h2⟩|⟨h1,h2,h3⟩
  .rcases hj.last with⟨_,g2⟩|⟨g1,_⟩
   .rw[h2,g2]
   .omega
  .rcases hj.last with⟨g1,_⟩|⟨_,_,g3⟩
   .omega
   .exact same g3 h3
 rw[<-e2];exact hj
def kT4:List UInt8:=[116,121,112,101,32,112,32,61,32,123,120,58,32,105,110,116,44,32,121,58,32,91,98,111,111,108,59,32,51,93,125,59,32,108,101,116,32,97,32,61,32,91,49,44,32,50,93,91,48,93,32,43,32,49,59,32,102,117,110,32,102,40,110,58,32,105,110,116,41,58,32,105,110,116,32,117,112,116,111,32,50,32,61,32,105,102,32,110,32,61,61,32,48,32,116,104,101,110,32,48,32,101,108,115,101,32,102,40,110,32,45,32,49,41,59,32,108,101,116,32,98,32,61,32,102,40,53,41,59]
def kT5:List UInt8:=[108,101,116,32,97,32,61,32,49,32,43,32,116,114,117,101,59]
theorem CD:cJ kT4=.ok (aK kT4):=mH (by decide +kernel)
theorem CE:cJ kT5=.ok (aK kT5):=mH (by decide +kernel)
theorem CF:(zb (aK kT4)).2.2=0:=by decide +kernel
theorem CG:(zb (aK kT5)).2.2=0:=by decide +kernel
theorem MS:InfOk (aK kT4):=⟨CF,BW (f:=30) (jO CD).1 CF (by decide +kernel) (.inl ⟨rfl,rfl⟩)⟩
theorem MT:InfO (aK kT5) 2 11:=⟨by decide,.inr ⟨CG,2,BW (f:=30) (jO CE).1 CG (by decide +kernel) (.inr ⟨by decide +kernel,by decide,by decide +kernel⟩),rfl⟩⟩
theorem MU:(aK kT4).nodes.length=30:=by decide +kernel
theorem tG:(aK kT4).items=[5,13,26,29]:=by decide +kernel
theorem MV:ofK (exT (aK kT4)) 8=[91,105,110,116,59,32,50,93]:=by decide +kernel
theorem MP:aX [91,112,59,32,50,93]=true/\zU (aK kT4) (tysP (aK kT4) (aK kT4).nodes.length) (aK kT4).nodes.length 30 [91,112,59,32,50,93]=some (8,true):=by decide +kernel
theorem MQ:aW [91,91,105,110,116,59,32,50,93,59,32,51,93]=some ([91,105,110,116,59,32,50,93],3):=by decide +kernel
theorem MW:recT (aK kT4) (aK kT4).nodes.length [112]=some 5/\dL (aK kT4) (tysP (aK kT4) (aK kT4).nodes.length) (aK kT4).nodes.length 30 [121] ((aK kT4).nd 5).kids 0=some (1,3,0):=by decide +kernel
theorem MY:jL (aK kT4) 60 26=some 27/\jL (aK kT4) 60 29=some 29:=by decide +kernel
theorem MX:((aK kT4).nd 26).kind=42/\dY (aK kT4) (tysP (aK kT4) (aK kT4).nodes.length) 26=[intT]/\fB (aK kT4) (tysP (aK kT4) (aK kT4).nodes.length) 26=intT:=by decide +kernel
theorem MR:gC (aK kT4) 60 (aK kT4).items (0,1,0)=some (0,0):=by decide +kernel
def blanks(n:Nat):Array Value:=Array.replicate n (strV [])
theorem AM(W:World)(n:Nat)(h:n<=1000000) :
 (Instr.makeSlice 26 (.int .i64 n) (.int .i64 n)).run prog W=.ok (.slice (some ⟨W.heap.size,0,none⟩) n n) (W.alloc (.cells (blanks n) 9)):=by
 obtain⟨i0,hi,ha,hb,hc⟩:=info_parts pZ;rw[run_make (P:=prog) W 26 9 i0 (.string ⟨#[]⟩) vK hi ha .i64 .i64 n n (by omega) (Int.le_refl _) (by rw[hc];omega) (by omega),hb,Nat.mul_one,Int.toNat_natCast]
 have:madeCells (Value.string ⟨#[]⟩).cells n=blanks n:=by
  apply Array.ext';rw[show(Value.string ⟨#[]⟩).cells = #[Value.string ⟨#[]⟩]from rfl,toList_madeCells_one,blanks];simp[strV]
 rw[this]
theorem EO(W:World){B n:Nat}(hB:B<=W.heap.size)(hn:n<=1000000):dA (W.alloc (.cells (blanks n) 9)) B (some ⟨W.heap.size,0,none⟩) n (List.replicate n []):=by
 have e:(blanks n).toList=kP (List.replicate n []):=by simp[blanks]
 have hl:(List.replicate n ([]:List UInt8)).length=n:=by simp
 unfold dA;rw[hl,<-e];exact World.ownsRow_lit W (blanks n) n hB (by unfold maxLen;omega) (by simp[blanks])
def QV(w:World)(v:TreeV)(t:Tr)(e:Ending)(w':World):Prop:=
 (InfOk t/\∃(p:bF) (w1:World),e=.returned (.tuple #[.pointer (some ⟨p.g,0,none⟩),intV 0,intV 0])/\p.v=v/\Below w.heap.size w w1/\KindO w1 t (tysP t t.nodes.length) t.nodes.length p w') \/
 (∃k er:Int,InfO t k er/\e=.returned (.tuple #[.pointer none,intV k,intV er])/\Below w.heap.size w w')
theorem oV(v:TreeV)(t:Tr)(w:World)(bd:Bd t)(rg:Rg t)(hg:GVK w)(h:IsTree w v t) :
 Calls prog 25 #[v.val t] w (QV w v t):=by
 have hM:prog.follows .mixedOrders=true:=by kernel_rfl
 have hQ:=bd.n;have HC:=Hd (jC v t (boxT w v t) bd rg (hg.gv.mono boxT_below nlr) (h.mono boxT_below nlr));have HT:=Hd h;have BD:=Hd bd;have HG:=Hd hg;clear h hg bd rg;by_cases hz:(zb t).2.2=0
 .have HZ:=Hd hz
  have hw:=cR (zt hz).check (zt hz).err;have Hp:=Hd hw;have WFF:=Hd (zi BD.out hz).1;have hR:=vZ (zt hz).check;have hp:(zg t t.nodes.length).length=t.nodes.length:=zP t _;have Hh:=Hd hp;clear hz hw hp;obtain⟨na,nc,ia,ic⟩:=v;unfold TreeV.val;go_enter func25,ntmps25
  go_upto_region 4 with(
   go_at_call 22
   refine HC.o.mono ?_;rw[Hp.o];rintro e w2⟨a,c,rfl,ho,ha⟩;have hq:=dX ho;simp only[Hh.o];have hj:=ha.alloc ha.size (.cells #[.slice a t.nodes.length c] 62);have hl:Below (w.heap.size+1) (boxT w ⟨na,nc,ia,ic⟩ t) (w2.alloc (.cells #[.slice a t.nodes.length c] 62)):=hj.mono (by simp);obtain⟨b0,b1,hC,⟨hx,hy,hB⟩,hn⟩:=boxed hl HT.o;have k0:(w2.alloc (.cells #[.slice a t.nodes.length c] 62)).cell? ⟨w2.heap.size,0,none⟩=some (.slice a t.nodes.length c):=bZ rfl;have k1:w2.heap.size<(w2.alloc (.cells #[.slice a t.nodes.length c] 62)).heap.size:=by simp
   have Ha:=Hd hn;have Hk:=Hd hC;have Hi:=Hd (Row.mono hq ((Below.refl _ w2).alloc nlr (.cells #[.slice a t.nodes.length c] 62)) nlr)
   clear ha hj hl hn hC ho hq)
  obtain⟨w3,hF⟩:∃w3,w2.alloc (.cells #[.slice a t.nodes.length c] 62)=w3:=⟨_,rfl⟩
  have Hj:=Hd (HG.o.mono Ha.o nlr);rw[hF]at b0 b1 k0 k1 hx hy hB Ha Hk Hi Hj|-;clear hF;have He:Hid (Row 1 w3 a t.nodes.length c (zq (zg t t.nodes.length))):=Hd (by have:=Hi.o;rw[Hh.o]at this;exact this);refine N.region_M 8 hM (by kernel_rfl) (by kernel_rfl) rfl (by kernel_rfl) (by kernel_rfl) (fun _ _=>False) N.Pans.no (fun Wz=>Below (w3).heap.size (w3) Wz) (fun Wy Wz=>Below Wy.heap.size Wy Wz) (brf.drew) [.fix ?vG1_0,.fix ?vG1_1,.fix ?vG1_2,.dep [] (fun _ v W=>∃b,v=.map (some b)/\w3.heap.size<=b/\W.heap[b]?=some (.map #[] 0)),.fix ?vG1_4,.fix ?vG1_5,.fix ?vG1_6,.dep [] (fun _ v W=>∃b,v=.slice (some ⟨b,0,none⟩) t.nodes.length t.nodes.length/\dA W w3.heap.size (some ⟨b,0,none⟩) t.nodes.length (List.replicate t.nodes.length []))] [[],[],[],[],[],[],[],[]] rfl (by kernel_rfl) (N.sts_kd ⟨trivial,trivial,trivial,(fun _ _ _ _ hk h=>by obtain⟨b,h1,h2,h3⟩:=h;exact⟨b,h1,h2,(hk.block b (Array.getElem?_eq_some_iff.1 h3).1).trans h3⟩),trivial,trivial,trivial,(fun _ _ _ _ hk h=>by obtain⟨b,h1,h2⟩:=h;exact⟨b,h1,zL h2 hk⟩),trivial⟩) fun x=>?_;rotate_left 6
  iterate 3 (refine N.WalkM.fix ?_ ?_;refine N.StepS.known rfl (fun _=>brf) ?_;intro W hJ hP;obtain⟨hG,hI⟩:=bcell hJ;go_simp;rfl;simp only[N.pz])
  refine N.WalkM.dep ?sG1_3 ?rG1_3;case sG1_3=>exact N.StepS.runs rfl (fun W hJ hP=>by have hm:=@run_makeMap prog 74 W;exact⟨_,_,(by(go_simp;try rfl)),hJ.alloc hJ.size _,brf.alloc nlr _,⟨W.heap.size,rfl,hJ.size,World.alloc_heap_new _ _⟩⟩)
  simp only[N.pz]
  iterate 3 (refine N.WalkM.fix ?_ ?_;refine N.StepS.known rfl (fun _=>brf) ?_;intro W hJ hP;obtain⟨hG,hI⟩:=bcell hJ;go_simp;rfl;simp only[N.pz])
  refine N.WalkM.dep ?sG1_7 ?rG1_7;case sG1_7=>exact N.StepS.runs rfl (fun W hJ hP=>by have hm:=AM W t.nodes.length (by omega);exact⟨_,_,(by(go_simp;try rfl)),hJ.alloc hJ.size _,brf.alloc nlr _,⟨W.heap.size,rfl,EO W hJ.size (by omega)⟩⟩)
  simp only[N.pz];refine N.WalkM.nil fun W hJ hH=>?_;obtain⟨mb,hm,hL,hu⟩:∃b,x 3=.map (some b)/\w3.heap.size<=b/\W.heap[b]?=some (.map #[] 0):=hH 3;obtain⟨ob,ho,hv⟩:∃b,x 7=.slice (some ⟨b,0,none⟩) t.nodes.length t.nodes.length/\dA W w3.heap.size (some ⟨b,0,none⟩) t.nodes.length (List.replicate t.nodes.length []):=hH 7;generalize x 3=y3 at *;generalize x 7=y7 at *;subst hm ho;clear hH
  have Ho:Hid (OwnS W mb 0 (.map [])):=Hd (by
   obtain⟨es,clock,hb,F,hs,hD⟩:=(World.ownsMap_made w3 prog 9 rdV:OwnS (w3.alloc (.map #[] 0)) w3.heap.size 0 (.map []))
   rw[World.alloc_heap_new]at hb;simp only[Option.some.injEq,Obj.map.injEq]at hb;obtain⟨rfl,rfl⟩:=hb
   exact⟨#[],0,hu,F,hs,hD⟩)
  have Hn:=Hd hv;have Hf:=Hd hJ;simp only[List.drop_succ_cons,List.drop_zero];clear hu hv hJ b0 b1 k0 k1 hx hy hB
  go_upto_region 5 with fail
  obtain⟨W5,he⟩:∃X,W.alloc (.cells #[.slice na t.nodes.length nc,.slice ia t.items.length ic,.slice a t.nodes.length c,.map (some mb),.slice (some ⟨ob,0,none⟩) t.nodes.length t.nodes.length] 76)=X:=⟨_,rfl⟩
  have HO:Hid (KindO w3 t (tysP t 0) 0 ⟨⟨na,nc,ia,ic⟩,W.heap.size,a,c,mb,some ⟨ob,0,none⟩,t.nodes.length⟩ W5):=Hd (by
   have hh:Below W.heap.size W W5:=by rw[<-he];exact brf.alloc nlr _
   refine⟨Hf.o.trans (hh.mono Hf.o.size),Hk.o,He.o,Hj.o,by rw[<-he];exact World.alloc_heap_new _ _,Hf.o.size,zL Hn.o hh,by simp[tysP],⟨0,.map [],nlr,mI Ho.o hh,⟨⟨[],rfl⟩,fun s=>rfl,fun s=>rfl⟩⟩,hL⟩)
  rw[he];clear he;obtain⟨g0,ht⟩:∃g,W.heap.size=g:=⟨_,rfl⟩
  rw[ht]at HO|-;obtain⟨k0,e0,hA⟩:=BX BD.out HZ.o;have hO:=hA.le;have HA:=Hd hA;have c0:=HO.o.prog.c0;have hK:=HO.o.prog.gl;have Hb:Hid (∀X,Below w3.heap.size w3 X->Below w.heap.size w X):=Hd fun X h=>Ha.o.trans (h.mono Ha.o.size);clear hA ht;go_wp2;clear c0 hK
  go_loopw [2,34] (fun t2 t34 wr=>∃k:Nat,t34=.int .i64 k/\t2=.pointer (some ⟨g0,0,none⟩)/\k<=k0/\Hid (KindO w3 t (tysP t k) k ⟨⟨na,nc,ia,ic⟩,g0,a,c,mb,some ⟨ob,0,none⟩,t.nodes.length⟩ wr)) (fun _ t34 _=>t.nodes.length-(intOf t34).toNat)
  case atStart=>exact⟨0,rfl,rfl,Nat.zero_le _,HO⟩
  case round=>
   obtain⟨k,rfl,rfl,hk,HK⟩:=hrel;by_cases hlt:k<t.nodes.length
   .by_cases hkk:k<k0
    .obtain⟨f,hf⟩:=(HA.o.zero k hkk).prog
     have Hc:=Hd (rL w3 t ⟨⟨na,nc,ia,ic⟩,g0,a,c,mb,some ⟨ob,0,none⟩,t.nodes.length⟩ k f 0 wr BD.out HZ.o hlt hf HK.o);clear hf
     go_wp2_with (go_at_call 45;refine Hc.o.mono ?_;rintro e w5 ⟨rfl,hc⟩;have Hg:=Hd hc;clear hc)
     go_roundw
     case rel=>exact⟨k+1,by go_num,rfl,by omega,Hg⟩
     case measure=>simp[intOf];omega
    .obtain rfl:k=k0:=by omega
     obtain⟨hd,hE⟩:e0≠0/\ErrAt t k e0:=by
      rcases HA.o.last with⟨h1,_⟩|⟨_,h2,h3⟩
      .omega
      .exact⟨h2,h3⟩
     obtain⟨f,hf⟩:=hE.prog;have Hc:=Hd (rL w3 t ⟨⟨na,nc,ia,ic⟩,g0,a,c,mb,some ⟨ob,0,none⟩,t.nodes.length⟩ k f e0 wr BD.out HZ.o hlt hf HK.o);have hN:(e0 != 0)=true:=by simpa using hd
     have Hm:=Hd hd;clear hf hE hd
     go_wp2_with (go_at_call 45;refine Hc.o.mono ?_;rintro e w5 ⟨rfl,hc⟩;have Hg:=Hd hc;clear hc)
     refine bodyPost_ret (v:=.tuple #[.pointer none,intV k,intV e0]) (by simp[results,results25,go_sem]) rfl (.inr ⟨k,e0,⟨Hm.o,.inr ⟨HZ.o,k,HA.o,rfl⟩⟩,rfl,Hb.o _ Hg.o.base⟩)
   .obtain rfl:k=t.nodes.length:=by omega
    obtain rfl:k0=t.nodes.length:=by omega
    have hd:e0=0:=by
     rcases HA.o.last with⟨_,h1⟩|⟨h1,_⟩
     .exact h1
     .omega
    subst hd;go_wp2;refine bodyPost_ret (v:=.tuple #[.pointer (some ⟨g0,0,none⟩),intV 0,intV 0]) (by simp[results,results25,go_sem]) rfl (.inl ⟨⟨HZ.o,HA.o⟩,⟨⟨na,nc,ia,ic⟩,g0,a,c,mb,some ⟨ob,0,none⟩,t.nodes.length⟩,w3,rfl,rfl,Ha.o,HK.o⟩)
 .obtain⟨L1,A1,E1,hr⟩:∃L A E,zb t=(L,A,E):=⟨_,_,_,rfl⟩
  have HR:=Hd hr;have hi:E1≠0:=by rw[hr]at hz;exact hz
  have hN:(E1 != 0)=true:=by simpa using hi
  have HZ:=Hd hi;clear hz hr hi;obtain⟨na,nc,ia,ic⟩:=v;unfold TreeV.val;go_enter func25,ntmps25
  go_wp2_with (go_at_call 22;refine HC.o.mono ?_;rw[HR.o];rintro e w2 ⟨a,c,rfl,-,ha⟩;have Hl:=Hd (boxT_below.trans ((ha.alloc ha.size (.cells #[.slice a L1.length c] 62)).mono (by simp)):Below w.heap.size w (w2.alloc (.cells #[.slice a L1.length c] 62)));clear ha)
  refine bodyPost_ret (v:=.tuple #[.pointer none,intV A1,intV E1]) (by simp[results,results25,go_sem]) rfl (.inr ⟨A1,E1,⟨HZ.o,.inl ⟨by rw[HR.o];exact HZ.o,by rw[HR.o],by rw[HR.o]⟩⟩,rfl,Hl.o⟩)
theorem sE(v:TreeV)(t:Tr)(w:World)(bd:Bd t)(rg:Rg t)(hg:GVK w)(h:IsTree w v t)(hok:InfOk t) :
 Calls prog 25 #[v.val t] w fun e w'=>∃(p:bF) (w1:World),e=.returned (.tuple #[.pointer (some ⟨p.g,0,none⟩),intV 0,intV 0])/\p.v=v/\Below w.heap.size w w1/\KindO w1 t (tysP t t.nodes.length) t.nodes.length p w':=
 (oV v t w bd rg hg h).mono (by
  rintro e w' (⟨-,h⟩|⟨k,er,h,-⟩)
  .exact h
  .exact(hok.no h).elim)
theorem mY(v:TreeV)(t:Tr)(w:World)(bd:Bd t)(rg:Rg t)(hg:GVK w)(h:IsTree w v t)(hok:¬InfOk t) :
 Calls prog 25 #[v.val t] w fun e w'=>∃k er:Int,InfO t k er/\(er != 0)=true/\e=.returned (.tuple #[.pointer none,intV k,intV er])/\Below w.heap.size w w':=
 (oV v t w bd rg hg h).mono (by
  rintro e w' (⟨h,-⟩|⟨k,er,h,h2,h3⟩)
  .exact(hok h).elim
  .exact⟨k,er,h,by simpa using h.1,h2,h3⟩)
theorem KindO.all{w w1 w2:World}{v:TreeV}{t:Tr}{L:List (List UInt8)}{b:Nat}{p:bF}(h:KindO w1 t L b p w2)(hb:Below (boxT w v t).heap.size (boxT w v t) w1):Below w.heap.size w w2:=
 boxT_below.trans ((hb.trans (h.base.mono hb.size)).mono (by simp))
def CellsR(t:Tr)(s:List UInt8)(r:Int×Int):Prop:=
 (aX s=false/\r=(0,4))\/(aX s=true/\∃c o,HasC t (tysP t t.nodes.length) t.nodes.length s c o/\r=if o then (if c=10000 then (0,5)else (c,0))else (0,7))
theorem CellsR.of{t:Tr}{s:List UInt8}{c:Int}{r:Int×Int}(h:CellsR t s r)(hc:TyC t s c)(h8:c<=8):r=(c,0):=by
 rcases h with⟨h1,_⟩|⟨_,d,o,h2,h3⟩
 .rw[hc.is]at h1;cases h1
 .obtain⟨rfl,rfl⟩:=h2.unique hc.has
  rw[h3,if_pos rfl,if_neg (by omega)]
def RetCells(w:World)(t:Tr)(s:List UInt8)(e:Ending)(w':World):Prop:=
 Below w.heap.size w w'/\((InfOk t/\∃r:Int×Int,CellsR t s r/\e=.returned (.tuple #[intV r.1,intV r.2]))\/∃k er:Int,InfO t k er/\e=.returned (.tuple #[intV 0,intV er]))
theorem fN(v:TreeV)(t:Tr)(s:List UInt8)(w:World)(bd:Bd t)(rg:Rg t)(hg:GVK w)(h:IsTree w v t)(hs:s.length<=100000) :
 Calls prog 9 #[v.val t,strV s] w (RetCells w t s):=by
 have hd:=hg.step (boxT_below (v:=v) (t:=t));have he:=h.mono (boxT_below (v:=v) (t:=t)) nlr;by_cases hok:InfOk t
 .have HI:=Hd (sE v t _ bd rg hd he hok)
  have Hi:=Hd (mO bd hok.1 (Nat.le_refl t.nodes.length));have Hj:=Hd (zi bd hok.1).1;have Hf:=Hd (IS bd hok.1 s);have Hc:=Hd hok;clear h hg bd rg hd he hok;obtain⟨na,nc,ia,ic⟩:=v;unfold TreeV.val
  cases hT:aX s with
  | false=>
    have Ha:=Hd hT;clear hT;go_enter func9,ntmps9
    go_wp2_with (first
     | (go_at_call 25;refine HI.o.mono ?_;rintro e w2 ⟨p,w1,rfl,-,hb,hO⟩;have HO:=Hd hO;have HB:=Hd (hO.all hb);clear hb hO)
     | (go_at_call 26;refine(uH s _ (by omega) HO.o.prog.gvk).mono ?_;rw[Ha.o];rintro e w3 ⟨rfl,ha⟩;have Hb:=Hd (HB.o.trans (ha.mono HB.o.size));clear ha))
    refine bodyPost_ret (v:=.tuple #[intV 0,intV 4]) (by simp[results,results9,go_sem]) rfl ⟨Hb.o,.inl ⟨Hc.o,(0,4),.inl ⟨Ha.o,rfl⟩,rfl⟩⟩
  | true=>
    have Ha:=Hd hT;clear hT;obtain⟨c,o,f,hf⟩:=Hf.o;have HF:=Hd hf;clear hf;go_enter func9,ntmps9
    go_upto_region 7 with(first
     | (go_at_call 25;refine HI.o.mono ?_;rintro e w2 ⟨p,w1,rfl,-,hb,hO⟩;have HO:=Hd hO;have HB:=Hd (hO.all hb);clear hb hO)
     | (go_at_call 26;refine(uH s _ (by omega) HO.o.prog.gvk).mono ?_;rw[Ha.o];rintro e w3 ⟨rfl,ha⟩;have Hb:=Hd (HB.o.trans (ha.mono HB.o.size));have Hh:=Hd (HO.o.step ha);clear ha)
     | (go_at_call 27;refine(jZ t _ _ p Hj.o nlr Hi.o f s _ HF.o (by omega) _ Hh.o.prog).mono ?_;rintro e w4 ⟨rfl,hi⟩;have He:=Hd (Hb.o.trans (hi.mono Hb.o.size));clear hi))
    have fin:∀r:Int×Int,(r=if o then (if c=10000 then (0,5)else (c,0))else (0,7))->CellsR t s r:=fun r hr=>.inr ⟨Ha.o,c,o,⟨f,HF.o⟩,hr⟩;have FIN:=Hd fin;clear fin
    cases o with
    | false=>
      go_wp2;refine bodyPost_ret (v:=.tuple #[intV 0,intV 7]) (by simp[results,results9,go_sem]) rfl ⟨He.o,.inl ⟨Hc.o,(0,7),FIN.out _ rfl,rfl⟩⟩
    | true=>
      by_cases hc:c=10000
      .subst hc
       go_wp2;refine bodyPost_ret (v:=.tuple #[intV 0,intV 5]) (by simp[results,results9,go_sem]) rfl ⟨He.o,.inl ⟨Hc.o,(0,5),FIN.out _ rfl,rfl⟩⟩
      .have hk:(c==10000)=false:=by simpa using hc
       have HC:=Hd hc;clear hc;go_wp2;refine bodyPost_ret (v:=.tuple #[intV c,intV 0]) (by simp[results,results9,go_sem]) rfl ⟨He.o,.inl ⟨Hc.o,(c,0),FIN.out _ (by simp[HC.o]),rfl⟩⟩
 .have HI:=Hd (mY v t _ bd rg hd he hok)
  clear h hg bd rg hd he hok;obtain⟨na,nc,ia,ic⟩:=v;unfold TreeV.val;go_enter func9,ntmps9
  go_wp2_with (go_at_call 25;refine HI.o.mono ?_;rintro e w2 ⟨k,er,hj,hl,rfl,hh⟩;have Hg:=Hd hj;have HB:=Hd (boxT_below.trans (hh.mono (by simp)):Below w.heap.size w w2);clear hh hj)
  refine bodyPost_ret (v:=.tuple #[intV 0,intV er]) (by simp[results,results9,go_sem]) rfl ⟨HB.o,.inr ⟨k,er,Hg.o,rfl⟩⟩
def mW(s:List UInt8):List UInt8×Nat×Int:=match aW s with|some (of,n)=>(of,n,0)|none=>([],0,4)
theorem iZ(s:List UInt8)(w:World)(hg:GVK w)(hs:s.length<=1000000) :
 Calls prog 11 #[strV s] w fun e w'=>e=.returned (.tuple #[strV (mW s).1,intV (mW s).2.1,intV (mW s).2.2])/\Below w.heap.size w w':=by
 have HS:=Hd (fJ s w (by omega) hg);clear hg
 cases he:aW s with
 | none=>
   have HE:=Hd he;have HR:Hid (mW s=([],0,4)):=Hd (by unfold mW;rw[he]);clear he;go_enter func11,ntmps11
   go_wp2_with (go_at_call 28;refine HS.o.mono ?_;rintro e w1 ⟨x,z,rfl,-,ha⟩;rw[HE.o];simp only[Option.isSome_none];have Ha:=Hd ha;clear ha)
   refine bodyPost_ret (v:=.tuple #[strV [],intV 0,intV 4]) (by simp[results,results11,go_sem,strV]) rfl ⟨by rw[HR.o];rfl,Ha.o⟩
 | some q=>
   obtain⟨of,m⟩:=q;have HE:=Hd he;have HR:Hid (mW s=(of,m,0)):=Hd (by unfold mW;rw[he]);clear he;go_enter func11,ntmps11
   go_wp2_with (go_at_call 28;refine HS.o.mono ?_;rintro e w1 ⟨x,z,rfl,hb,ha⟩;obtain⟨hx,hz⟩:=hb _ HE.o;obtain rfl:of=x:=hx.symm;obtain rfl:(m:Int)=z:=hz.symm;rw[HE.o];simp only[Option.isSome_some];have Ha:=Hd ha;clear ha hb hx hz)
   refine bodyPost_ret (v:=.tuple #[strV of,intV m,intV 0]) (by simp[results,results11,go_sem]) rfl ⟨by rw[HR.o],Ha.o⟩
end
section
open Go Go.RowKit
theorem wF{t:Tr}(bd:Bd t)(hr:(zb t).2.2=0)(field:List UInt8):∀(l:List Int) (m:Int),∃f r,dL t (tysP t t.nodes.length) t.nodes.length f field l m=some r
 | [],_=>⟨0,_,rfl⟩
 | k::l,m=>by
   obtain⟨c,o,f,hf⟩:=IS bd hr (ofK (tysP t t.nodes.length) k);by_cases h:((t.nd k).text==field)=true
   .exact⟨f,(m,c,0),by rw[dL,hf];simp only[Option.bind_some,h,if_true]⟩
   .obtain⟨g,r,hg⟩:=wF bd hr field l (m+c)
    refine⟨f+g,r,?_⟩;rw[dL,aG f (f+g) _ _ (by omega) hf];simp only[Option.bind_some,h,Bool.false_eq_true,if_false];exact dF (by omega) _ _ _ hg
section
variable {t : Tr}
def RetRec(w:World)(t:Tr)(s:List UInt8)(e:Ending)(w':World):Prop:=
 Below w.heap.size w w'/\match recT t t.nodes.length s with
  |none=>e=.returned (.tuple #[.pointer none,.slice none 0 0,intV 7])
  |some q=>∃(p:bF) (w1:World) (ka:Option Addr) (kc:Nat),e=.returned (.tuple #[.pointer (some ⟨p.g,0,none⟩),.slice ka (t.nd (q:Int)).kids.length kc,intV 0])/\KindO w1 t (tysP t t.nodes.length) t.nodes.length p w'/\Ints w' ka kc (t.nd (q:Int)).kids
theorem RetRec.isNone{w w':World}{t:Tr}{s:List UInt8}{e:Ending}(hr:recT t t.nodes.length s=none):RetRec w t s e w'↔Below w.heap.size w w'/\e=.returned (.tuple #[.pointer none,.slice none 0 0,intV 7]):=by
 unfold RetRec;rw[hr]
theorem RetRec.isSome{w w':World}{t:Tr}{s:List UInt8}{e:Ending}{q:Nat}(hr:recT t t.nodes.length s=some q):RetRec w t s e w'↔Below w.heap.size w w' /\∃(p:bF) (w1:World) (ka:Option Addr) (kc:Nat),e=.returned (.tuple #[.pointer (some ⟨p.g,0,none⟩),.slice ka (t.nd (q:Int)).kids.length kc,intV 0])/\KindO w1 t (tysP t t.nodes.length) t.nodes.length p w'/\Ints w' ka kc (t.nd (q:Int)).kids:=by
 unfold RetRec;rw[hr]
theorem rN(v:TreeV)(t:Tr)(s:List UInt8)(w:World)(bd:Bd t)(rg:Rg t)(hg:GVK w)(h:IsTree w v t)(hok:InfOk t)(hs:s.length<=1000000) :
 Calls prog 30 #[v.val t,strV s] w (RetRec w t s):=by
 have hh:prog.follows .mixedOrders=true:=by kernel_rfl
 have hi:=bd.n;have HI:=Hd (sE v t _ bd rg (hg.step (boxT_below (v:=v) (t:=t))) (h.mono (boxT_below (v:=v) (t:=t)) nlr) hok);clear h hg bd rg hok;obtain⟨na,nc,ia,ic⟩:=v;unfold TreeV.val;go_enter func30,ntmps30
 go_upto_region 4 with(go_at_call 25;refine HI.o.mono ?_;rintro e w2 ⟨p,w1,rfl,-,hc,hO⟩;have HO:=Hd hO;have HB:=Hd (hO.all hc);clear hc hO)
 have hP:=HO.o.prog;have c0:=hP.c0;have c2:=hP.c3;have hf:=hP.gl;have ha:=hP.look hs;have HP:=Hd hP;clear hP
 cases hrec:recT t t.nodes.length s with
 | none=>
   rw[hrec]at ha;simp only[Option.elim_none,Option.isSome_none]at ha;have Ha:=Hd hrec;clear hrec;go_wp2;refine bodyPost_ret (v:=.tuple #[.pointer none,.slice none 0 0,intV 7]) (by simp[results,results30,go_sem]) rfl ((RetRec.isNone Ha.o).2 ⟨HB.o,rfl⟩)
 | some q=>
   rw[hrec]at ha;simp only[Option.elim_some,Option.isSome_some]at ha;have hq:=qU hrec nlr;obtain⟨bn,on,ka,kc,ea,he,-,-,-,m3,-,hb⟩:=HP.o.tree.nodes.at hq;rw[ea]at c0;have hd:=t.nd_at hq;rw[<-hd]at m3 hb;have Hb:=Hd hb;have Ha:=Hd hrec;clear hrec hb ea hd;go_wp2;go_region;go_wp2;refine bodyPost_ret (v:=.tuple #[.pointer (some ⟨p.g,0,none⟩),.slice ka (t.nd (q:Int)).kids.length kc,intV 0]) (by simp[results,results30,go_sem]) rfl ((RetRec.isSome Ha.o).2 ⟨HB.o.drew,p,w1,ka,kc,rfl,HO.o.step (brf.drew),Row.mono Hb.o (brf.drew) nlr⟩)
theorem oX(v:TreeV)(t:Tr)(s:List UInt8)(w:World)(bd:Bd t)(rg:Rg t)(hg:GVK w)(h:IsTree w v t)(hok:¬InfOk t) :
 Calls prog 30 #[v.val t,strV s] w fun e w'=>Below w.heap.size w w' /\∃k er:Int,InfO t k er/\(er != 0)=true/\e=.returned (.tuple #[.pointer none,.slice none 0 0,intV er]):=by
 have HI:=Hd (mY v t _ bd rg (hg.step (boxT_below (v:=v) (t:=t))) (h.mono (boxT_below (v:=v) (t:=t)) nlr) hok);clear h hg bd rg hok;obtain⟨na,nc,ia,ic⟩:=v;unfold TreeV.val;go_enter func30,ntmps30
 go_wp2_with (go_at_call 25;refine HI.o.mono ?_;rintro e w2 ⟨k,er,hb,hc,rfl,ha⟩;have Ha:=Hd hb;have HB:=Hd (boxT_below.trans (ha.mono (by simp)):Below w.heap.size w w2);clear ha hb)
 refine bodyPost_ret (v:=.tuple #[.pointer none,.slice none 0 0,intV er]) (by simp[results,results30,go_sem]) rfl ⟨HB.o,k,er,Ha.o,hc,rfl⟩
def nS(t:Tr)(s field:List UInt8)(r:Int×Int×Int):Prop:=
 match recT t t.nodes.length s with
 |none=>r=(0,0,7)
 |some q=>∃f,dL t (tysP t t.nodes.length) t.nodes.length f field (t.nd (q:Int)).kids 0=some r
def RetPlace(w:World)(t:Tr)(s field:List UInt8)(e:Ending)(w':World):Prop:=
 Below w.heap.size w w'/\((InfOk t/\∃r:Int×Int×Int,nS t s field r/\e=.returned (.tuple #[intV r.1,intV r.2.1,intV r.2.2]))\/∃k er:Int,InfO t k er/\e=.returned (.tuple #[intV 0,intV 0,intV er]))
theorem oW(v:TreeV)(t:Tr)(s field:List UInt8)(w:World)(bd:Bd t)(rg:Rg t)(hg:GVK w)(h:IsTree w v t)(hs:s.length<=1000000)(hf:field.length<=1000000) :
 Calls prog 14 #[v.val t,strV s,strV field] w (RetPlace w t s field):=by
 have hH:=bd.n;have hh:=hg.step (boxT_below (v:=v) (t:=t));have hc:=h.mono (boxT_below (v:=v) (t:=t)) nlr;by_cases hok:InfOk t
 .have HI:=Hd (rN v t s _ bd rg hh hc hok hs)
  have Hk:=Hd (mO bd hok.1 (Nat.le_refl t.nodes.length));have Hi:=Hd (zi bd hok.1).1;have Hj:=Hd (wF bd hok.1 field);have Hg:=Hd hok;clear h hg bd rg hh hc hok;obtain⟨na,nc,ia,ic⟩:=v;unfold TreeV.val
  cases hrec:recT t t.nodes.length s with
  | none=>
    have Ha:=Hd hrec;clear hrec;go_enter func14,ntmps14
    go_wp2_with (go_at_call 30;refine HI.o.mono ?_;rintro e w2 hm;obtain⟨hb,rfl⟩:=(RetRec.isNone Ha.o).1 hm;have HB:=Hd (boxT_below.trans (hb.mono (by simp)):Below w.heap.size w w2);clear hb)
    refine bodyPost_ret (v:=.tuple #[intV 0,intV 0,intV 7]) (by simp[results,results14,go_sem]) rfl ⟨HB.o,.inl ⟨Hg.o,(0,0,7),by unfold nS;rw[Ha.o],rfl⟩⟩
  | some q=>
    have Ha:=Hd hrec;have hq:=qU hrec nlr;obtain⟨g,r,hr⟩:=Hj.o (t.nd (q:Int)).kids 0;have HR:Hid (∃f,dL t (tysP t t.nodes.length) t.nodes.length f field (t.nd (q:Int)).kids 0=some r):=Hd ⟨g,hr⟩;have hi:=Hi.o.kid q hq;have hv:=Hi.o.bd.k _ (List.getElem_mem hq);rw[<-t.nd_at hq]at hi hv;obtain⟨D,hD⟩:∃D,t.nd (q:Int)=D:=⟨_,rfl⟩
    rw[hD]at HR hr hi hv;have Hf:=Hd hD;have Ho:=Hd hr;have Hm:=Hd hi;clear hrec hr hi hD Hj;go_enter func14,ntmps14
    go_wp2_with (go_at_call 30;refine HI.o.mono ?_;rintro e w2 hm;obtain⟨hb,p,w1,ka,kc,rfl,hO,hl⟩:=(RetRec.isSome Ha.o).1 hm;rw[Hf.o]at hl|-;have HB:=Hd (boxT_below.trans (hb.mono (by simp)):Below w.heap.size w w2);have HP:=Hd hO.prog;have Hn:=Hd hl;clear hb hO hl)
    go_loopw [6,27] (fun t6 t27 wr=>∃(j:Nat) (m:Int),t27=.int .i64 j/\t6=.int .i64 m/\j<=D.kids.length/\0<=m/\m<=10000*(j:Int)/\Hid (dL t (tysP t t.nodes.length) t.nodes.length g field (D.kids.drop j) m=some r)/\Hid (Below w2.heap.size w2 wr)) (fun _ t27 _=>D.kids.length-(intOf t27).toNat)
    case atStart=>exact⟨0,0,rfl,rfl,Nat.zero_le _,by omega,by omega,Hd (by simpa using Ho.o),Hd brf⟩
    case round=>
     obtain⟨j,m,rfl,rfl,hj,hE,hG,HS,Hb⟩:=hrel;have Hc:=Hd (HP.o.step Hb.o);by_cases hlt:j<D.kids.length
     .obtain⟨q1,q2⟩:=Hm.o _ (List.getElem_mem hlt)
      have hs:=HS.o;rw[List.drop_eq_getElem_cons hlt,dL]at hs;obtain⟨bk,ok,ek,hB,hz⟩:=Ints.at (show Ints wr ka kc D.kids from Row.mono Hn.o Hb.o nlr) hlt;subst ek;obtain⟨a,ha⟩:=Int.eq_ofNat_of_zero_le q1;rw[ha]at hs hz q2;cases hF:zU t (tysP t t.nodes.length) t.nodes.length g (ofK (tysP t t.nodes.length) (a:Int))with
      |none=>rw[hF]at hs;cases hs
      |some rr=>
      rw[hF]at hs;simp only[Option.bind_some]at hs;have hk:a<t.nodes.length:=by omega
      obtain⟨co,oo,eoa,hA,hp⟩:=Hc.o.ofAt hk;have c4:=Hc.o.c4;rw[eoa]at c4;have ht:=Hc.o.gl;have hx:=Hk.o (a:Int);obtain⟨z0,z1⟩:=cI g _ rr hF;obtain⟨z,zo⟩:=rr;simp only at z0 z1 hs;obtain⟨kt,hw⟩:∃kt,ofK (tysP t t.nodes.length) (a:Int)=kt:=⟨_,rfl⟩
      rw[hw]at hF hp hx;have HF:=Hd hF;have Hh:=Hd hs;have HJ:=Hd hlt;clear hF hs ha eoa hw q1
      go_upto_region 8 with(go_at_call 27;refine(jZ t _ _ p Hi.o nlr Hk.o g kt _ HF.o hx _ Hc.o).mono ?_;rintro e w3 ⟨rfl,ho⟩;have He:=Hd (Hb.o.trans (ho.mono Hb.o.size));clear ho)
      clear c4 ht hp hA;have hd:=HP.o.step He.o;have c0:=hd.c0;have ht:=hd.gl;obtain⟨bn,on,kb,kd,ea,hC,-,m1,-,-,-,-⟩:=hd.tree.nodes.at hk;rw[ea]at c0;have hy:=t.nd_at hk;rw[<-hy]at m1;obtain⟨tx,hc⟩:∃tx,(t.nd (a:Int)).text=tx:=⟨_,rfl⟩
      rw[hc]at m1 Hh;clear hd hy hc ea;cases he:(tx==field)with
      | true=>
        have HE:Hid (r=(m,z,0)):=Hd (by
         have:=Hh.o;rw[he,if_pos rfl]at this
         exact(Option.some.inj this).symm)
        go_wp2;refine bodyPost_ret (v:=.tuple #[intV m,intV z,intV 0]) (by simp[results,results14,go_sem]) rfl ⟨HB.o.trans (He.o.mono HB.o.size),.inl ⟨Hg.o,r,by unfold nS;rw[Ha.o];show ∃f,dL t _ _ f field (t.nd (q:Int)).kids 0=some r;rw[Hf.o];exact HR.o,by rw[HE.o]⟩⟩
      | false=>
        have HN:Hid (dL t (tysP t t.nodes.length) t.nodes.length g field (D.kids.drop (j+1)) (m+z)=some r):=Hd (by
         have:=Hh.o;rw[he,if_neg Bool.false_ne_true]at this
         exact this)
        go_wp2
        go_roundw
        case rel=>exact⟨j+1,m+z,by go_num,by go_num,by omega,by omega,by omega,HN,He⟩
        case measure=>simp[intOf];omega
     .obtain rfl:j=D.kids.length:=by omega
      have HE:Hid (r=(0,0,7)):=Hd (by
       have:=HS.o;rw[List.drop_length]at this
       exact(Option.some.inj this).symm)
      go_wp2;refine bodyPost_ret (v:=.tuple #[intV 0,intV 0,intV 7]) (by simp[results,results14,go_sem]) rfl ⟨HB.o.trans (Hb.o.mono HB.o.size),.inl ⟨Hg.o,r,by unfold nS;rw[Ha.o];show ∃f,dL t _ _ f field (t.nd (q:Int)).kids 0=some r;rw[Hf.o];exact HR.o,by rw[HE.o]⟩⟩
 .have HI:=Hd (oX v t s _ bd rg hh hc hok)
  clear h hg bd rg hh hc hok;obtain⟨na,nc,ia,ic⟩:=v;unfold TreeV.val;go_enter func14,ntmps14
  go_wp2_with (go_at_call 30;refine HI.o.mono ?_;rintro e w2 ⟨hn,k,er,hu,hI,rfl⟩;have Hl:=Hd hu;have HB:=Hd (boxT_below.trans (hn.mono (by simp)):Below w.heap.size w w2);clear hn hu)
  refine bodyPost_ret (v:=.tuple #[intV 0,intV 0,intV er]) (by simp[results,results14,go_sem]) rfl ⟨HB.o,.inr ⟨k,er,Hl.o,rfl⟩⟩
end
end
section
open Go Go.RowKit
def exTo(t:Tr)(k:Nat):List (List UInt8):=(List.range t.nodes.length).map fun i:Nat=>if i<k/\zl (t.nd (i:Int)).kind=false then []else tyP t i
theorem IM(t:Tr):exTo t 0=tysP t t.nodes.length:=by
 refine List.ext_getElem (by simp[exTo,jB]) fun j h1 h2=>?_;rw[jB]at h2;have:=FI t h2 (k:=t.nodes.length) h2;rw[List.getD_eq_getElem?_getD,List.getElem?_eq_getElem (by rw[jB];exact h2),Option.getD_some]at this;rw[this];simp[exTo,tyP]
theorem MC(t:Tr):exTo t t.nodes.length=exT t:=by
 refine List.map_congr_left fun j hj=>?_;have:=List.mem_range.1 hj;by_cases h:zl (t.nd (j:Int)).kind=true
 .simp[h]
 .simp[h,this]
theorem MD{t:Tr}{k:Nat}(h:zl (t.nd (k:Int)).kind=true):exTo t (k+1)=exTo t k:=by
 refine List.map_congr_left fun j hj=>?_;by_cases e:j=k
 .subst e;simp[h]
 .have:(j<k+1)↔j<k:=by omega
  simp[this]
theorem PM{t:Tr}{k:Nat}(h:zl (t.nd (k:Int)).kind=false):exTo t (k+1)=(exTo t k).set k []:=by
 refine List.ext_getElem (by simp[exTo]) fun j h1 h2=>?_;rw[List.getElem_set];simp only[exTo,List.getElem_map,List.getElem_range];by_cases e:k=j
 .subst e;simp[h]
 .have:(j<k+1)↔j<k:=by omega
  simp[this,e]
theorem yT(t:Tr)(k:Nat):(exTo t k).length=t.nodes.length:=by simp[exTo]
def RetInfer(w:World)(t:Tr)(e:Ending)(w':World):Prop:=
 (InfOk t/\∃a c,e=.returned (.tuple #[.agg #[.slice a t.nodes.length c],intV 0,intV 0])/\dA w' w.heap.size a c (exT t)/\Below w.heap.size w w') \/
 (∃k er:Int,InfO t k er/\(er != 0)=true/\e=.returned (.tuple #[.agg #[.slice none 0 0],intV k,intV er])/\Below w.heap.size w w')
theorem EQ{W:World}{B:Nat}{a:Option Addr}{c:Nat}{l:List (List UInt8)}(h:dA W B a c l){i:Nat}(hi:i<l.length)(x:List UInt8):∃nb,a=some ⟨nb,0,none⟩/\B<=nb/\nb<W.heap.size/\W.cell? ⟨nb,i,none⟩=some (strV l[i])/\W.frozen? ⟨nb,i,none⟩=false/\dA (W.setCell ⟨nb,i,none⟩ (strV x)) B a c (l.set i x):=by
 obtain⟨nb,e,hB,hd,hc⟩:=JL h (by omega);obtain⟨b,o,e2,hb,hv⟩:=Strs.at (zT h) hi;rw[e]at e2;simp only[Option.some.injEq,Addr.mk.injEq,and_true]at e2;obtain⟨rfl,rfl⟩:=e2;rw[Nat.zero_add]at hv;subst e;have ha:=(h.stored i (strV x)).1;rw[<-List.map_set]at ha;refine⟨nb,rfl,hB,hd,hv,hc i,?_⟩;unfold dA;rw[List.length_set];exact ha
theorem kW(v:TreeV)(t:Tr)(w:World)(bd:Bd t)(rg:Rg t)(hg:GVK w)(h:IsTree w v t) :
 Calls prog 17 #[v.val t] w (RetInfer w t):=by
 have hG:=bd.n;have he:Below w.heap.size w ((boxT w v t).alloc (.cells #[.slice none 0 0] 53)):=boxT_below.alloc (by simp) _;have Hi:=Hd he;have hj:((boxT w v t).alloc (.cells #[.slice none 0 0] 53)).heap.size=w.heap.size+1+1:=by simp
 have Hh:=Hd hj
 have hh:((boxT w v t).alloc (.cells #[.slice none 0 0] 53)).heap[w.heap.size+1]?=some (.cells #[.slice none 0 0] 53 (0,0)):=by
  have:=World.alloc_heap_new (boxT w v t) (.cells #[.slice none 0 0] 53);rw[show(boxT w v t).heap.size=w.heap.size+1 by simp]at this;exact this
 have Ha:=Hd hh;by_cases ha:InfOk t
 .have HI:=Hd (sE v t _ bd rg (hg.step he) (h.mono he nlr) ha)
  have Hs:=Hd ha;have Hn:=Hd (fun i (hi:i<t.nodes.length)=>(Good.ok (zi bd ha.1).2 hi).1);have HT:=Hd h;clear h hg bd rg he hj ha hh;obtain⟨na,nc,ia,ic⟩:=v;unfold TreeV.val;go_enter func17,ntmps17
  go_upto_region 4 with(go_at_call 25;refine HI.o.mono ?_;rintro e w2 ⟨p,w1,rfl,hw,hf,hO⟩;have HO:=Hd hO;have Hk:=Hd hf;have Ht:=Hd hw;clear hf hO hw)
  have hO:=HO.o;have hP:=hO.prog;have c4:=hP.c4;have c0:=hP.c0;rw[Ht.o]at c0;have hn:=hP.gl;have hc:=Hk.o;have hj:=Hh.o;have hE:w.heap.size+1<w1.heap.size:=by have:=hc.size;omega
  have kh:w2.heap[w.heap.size+1]?=some (.cells #[.slice none 0 0] 53 (0,0)):=(hO.base.block _ hE).trans ((hc.block _ (by omega)).trans Ha.o);have kc:w2.cell? ⟨w.heap.size+1,0,none⟩=some (.slice none 0 0):=za kh rfl;have kf:w2.frozen? ⟨w.heap.size+1,0,none⟩=false:=zr kh;have Hl:Hid (Below w.heap.size w w2):=Hd (Hi.o.trans ((hc.mono (by omega)).trans (hO.base.mono (by omega))));have Hj:Hid (dA w2 w1.heap.size p.oa p.oc (exTo t 0)):=Hd (by rw[IM];exact hO.own)
  have hv:∀y,p.oa=some y->w1.heap.size<=y.block:=fun y e=>by
   have:=hO.own;rw[e]at this;exact(this.lt y.block rfl).1
  have hK:=hO.pg;have Hb:=Hd hv;obtain⟨oa,ho⟩:∃o,p.oa=o:=⟨_,rfl⟩
  obtain⟨oc,hu⟩:∃o,p.oc=o:=⟨_,rfl⟩
  rw[ho,hu]at c4 Hj;rw[ho]at Hb;clear hO hP hc hj kh ho hu hv
  go_upto_region 5 with fail
  obtain⟨w3,hd⟩:∃X,w2.setCell ⟨w.heap.size+1,0,none⟩ (.slice oa t.nodes.length oc)=X:=⟨_,rfl⟩
  have k3:w3.cell? ⟨w.heap.size+1,0,none⟩=some (.slice oa t.nodes.length oc):=by rw[<-hd];exact World.cell?_setCell_same _ _ _ kc
  have f3:w3.frozen? ⟨w.heap.size+1,0,none⟩=false:=by rw[<-hd];simpa using kf
  have c03:w3.cell? ⟨p.g,0,none⟩=some (.slice na t.nodes.length nc):=by rw[<-hd];exact(World.cell?_setCell_other _ _ _ _ (fun e=>by have:=congrArg Addr.block e;simp only at this;omega)).trans c0
  have Hc:Hid (Below w.heap.size w w3):=Hd (by rw[<-hd];exact Hl.o.setCell (show w.heap.size<=w.heap.size+1 by omega) _)
  have Hg:Hid (dA w3 w1.heap.size oa oc (exTo t 0)):=Hd (by
   rw[<-hd]
   exact zW Hj.o (M:=fun i=>i=w.heap.size+1) ⟨rfl,rfl,rfl,by simp,fun k _ hk=>zQ hk⟩ (fun i hi e=>by
    obtain⟨x,hx,hb⟩:=hi;have:=Hb.o x hx
    omega))
  have hz:p.g<w3.heap.size:=by rw[<-hd];simpa using hn
  have hF:w1.heap.size<=w3.heap.size:=by rw[<-hd];simpa using HO.o.base.size
  rw[hd];clear hd kc kf c0 c4 hn;have K3:=Hd k3;have F3:=Hd f3;clear k3 f3;go_wp2
  go_loopw [30] (fun t30 wr=>∃k:Nat,t30=.int .i64 k/\k<=t.nodes.length/\Hid (Below w.heap.size w wr)/\Hid (dA wr w1.heap.size oa oc (exTo t k))/\Hid (wr.cell? ⟨w.heap.size+1,0,none⟩=some (.slice oa t.nodes.length oc))/\Hid (wr.frozen? ⟨w.heap.size+1,0,none⟩=false)/\w1.heap.size<=wr.heap.size) (fun t30 _=>t.nodes.length-(intOf t30).toNat)
  case atStart=>exact⟨0,rfl,Nat.zero_le _,Hc,Hg,K3,F3,hF⟩
  case round=>
   obtain⟨k,rfl,hk,HB,Hf,HK,HF,hL⟩:=hrel;by_cases hlt:k<t.nodes.length
   .obtain⟨b,o,ka,kc,ea,hb,n0,n1,n2,n3,n4,-⟩:=(HT.o.mono HB.o nlr).nodes.at hlt
    simp only at ea;subst ea;have hm:=t.nd_at hlt;have ha:=Hn.o k hlt
    have hr:∀kk,(t.nd (k:Int)).kind=kk->1<=kk:=fun kk e=>by
     rw[e]at ha;simp[okK,zl,cG,cQ]at ha;omega
    obtain⟨D,hD⟩:∃D,t.nodes[k]=D:=⟨_,rfl⟩
    rw[hD]at n0 n1 n2 n3 n4 hm;have hs:k<(exTo t k).length:=by rw[yT];exact hlt
    obtain⟨nb,ho,hH,hJ,hB,hI,ht⟩:=EQ (zL Hf.o (brf.alloc nlr (.cells #[.int .u8 D.kind,strV D.text,intV D.n,.slice ka D.kids.length kc,intV D.pos] 31))) hs [];subst ho;have He:Hid ((t.nd (k:Int)).kind=D.kind):=Hd (by rw[hm]);have hq:=hr _ He.o;have kcr:=HK.o;have hA:w.heap.size+1<wr.heap.size:=by omega
    have Hp:=Hd ht;obtain⟨yy,hy⟩:∃y,(exTo t k)[k]=y:=⟨_,rfl⟩
    rw[hy]at hB;have Hq:w1.heap.size<=nb:=Hb.o _ rfl;clear hD hm ha hr ht hy hs
    cases hx:zl D.kind with
    | true=>
      have HX:=Hd hx;have HE:Hid (exTo t (k+1)=exTo t k):=Hd (MD (by rw[He.o];exact hx));clear hx
      go_wp2_with (go_at_call 39;refine(bN D.kind _ hq).mono ?_;rw[HX.o];rintro e w5 ⟨rfl,rfl⟩)
      go_roundw
      case rel=>exact⟨k+1,by go_num,by omega,Hd (HB.o.alloc (by omega) _),Hd (by rw[HE.o];exact zL Hf.o (brf.alloc nlr _)),Hd ((World.cell?_alloc_old wr _ _ (show w.heap.size+1≠wr.heap.size by omega)).trans HK.o),Hd ((World.frozen?_alloc_old wr _ _ (show w.heap.size+1≠wr.heap.size by omega)).trans HF.o),by simp;omega⟩
      case measure=>simp[intOf];omega
    | false=>
      have HX:=Hd hx;have HE:Hid (exTo t (k+1)=(exTo t k).set k []):=Hd (PM (by rw[He.o];exact hx));clear hx
      go_wp2_with (go_at_call 39;refine(bN D.kind _ hq).mono ?_;rw[HX.o];rintro e w5 ⟨rfl,rfl⟩)
      go_roundw
      case rel=>exact⟨k+1,by go_num,by omega,Hd ((HB.o.alloc (by omega) _).setCell (show w.heap.size<=nb by omega) _),Hd (by rw[HE.o];exact Hp.o),Hd ((World.cell?_setCell_other _ _ _ _ (fun e=>by have:=congrArg Addr.block e;simp only at this;omega)).trans ((World.cell?_alloc_old wr _ _ (show w.heap.size+1≠wr.heap.size by omega)).trans HK.o)),Hd (by rw[World.frozen?_setCell];exact(World.frozen?_alloc_old wr _ _ (show w.heap.size+1≠wr.heap.size by omega)).trans HF.o),by simp;omega⟩
      case measure=>simp[intOf];omega
   .obtain rfl:k=t.nodes.length:=by omega
    have kcr:=HK.o;have kfr:=HF.o;have kk:=World.cell?_setCell_same wr ⟨w.heap.size+1,0,none⟩ (.slice oa t.nodes.length oc) kcr
    have Hr:Hid (dA (wr.setCell ⟨w.heap.size+1,0,none⟩ (.slice oa t.nodes.length oc)) w.heap.size oa oc (exT t)):=Hd (by
     rw[<-MC]
     exact cA (zW Hf.o (M:=fun i=>i=w.heap.size+1) ⟨rfl,rfl,rfl,by simp,fun k _ hk=>zQ hk⟩ (fun i hi e=>by
      obtain⟨x,hx,hb⟩:=hi;have:=Hb.o x hx
      omega)) (by omega))
    go_wp2;refine bodyPost_ret (v:=.tuple #[.agg #[.slice oa t.nodes.length oc],intV 0,intV 0]) (by simp[results,results17,go_sem,loadVar,Result.andThen,kk]) rfl (.inl ⟨Hs.o,oa,oc,rfl,Hr.o,HB.o.setCell (show w.heap.size<=w.heap.size+1 by omega) _⟩)
 .have HI:=Hd (mY v t _ bd rg (hg.step he) (h.mono he nlr) ha)
  clear h hg bd rg he ha hj;obtain⟨na,nc,ia,ic⟩:=v;unfold TreeV.val;go_enter func17,ntmps17
  go_wp2_with (go_at_call 25;refine HI.o.mono ?_;rintro e w2 ⟨k,er,hp,hC,rfl,hf⟩;have Hm:=Hd hp;have Ho:=Hd hC;have hl:=(hf.block (w.heap.size+1) (by rw[Hh.o];omega)).trans Ha.o;have kc:=za (i:=0) (v:=.slice none 0 0) hl rfl;have kf:=zr (i:=0) hl;have HB:=Hd (Hi.o.trans (hf.mono (by rw[Hh.o];omega)));have kk:=World.cell?_setCell_same w2 ⟨w.heap.size+1,0,none⟩ (.slice none 0 0) kc;clear hf hp hl)
  refine bodyPost_ret (v:=.tuple #[.agg #[.slice none 0 0],intV k,intV er]) (by simp[results,results17,go_sem,loadVar,Result.andThen,kk]) rfl (.inr ⟨k,er,Hm.o,Ho.o,rfl,HB.o.setCell (show w.heap.size<=w.heap.size+1 by omega) _⟩)
structure BxW (w X:World) (tb:Nat) (v:TreeV) (t:Tr):Prop where
 base:Below (w.heap.size+1) (w.alloc (.cells #[.slice none 0 0,.slice none 0 0] 25)) X
 c0:X.cell? ⟨tb,0,none⟩=some (.slice v.na t.nodes.length v.nc)
 c1:X.cell? ⟨tb,1,none⟩=some (.slice v.ia t.items.length v.ic)
 tree:IsTree X v t
 gl:tb<X.heap.size
 lo:w.heap.size+1<=tb
theorem BxW.step{w X X':World}{tb:Nat}{v:TreeV}{t:Tr}(h:BxW w X tb v t)(hb:Below X.heap.size X X'):BxW w X' tb v t:=
 ⟨h.base.trans (hb.mono (Nat.le_trans h.lo (Nat.le_of_lt h.gl))),(hb.cell (p:=⟨tb,0,none⟩) h.gl).trans h.c0,(hb.cell (p:=⟨tb,1,none⟩) h.gl).trans h.c1,h.tree.mono hb nlr,Nat.lt_of_lt_of_le h.gl hb.size,h.lo⟩
theorem BxW.out{w X:World}{tb:Nat}{v:TreeV}{t:Tr}(h:BxW w X tb v t):Below w.heap.size w X:=((Below.refl _ w).alloc nlr _).trans (h.base.mono (by omega))
def pJ(w:World)(e:Ending)(w':World):Prop:=
 ∃ (v:TreeV) (t:Tr) (oa:Option Addr) (oc:Nat) (L:List (List UInt8)) (da:Option Addr) (dc:Nat) (l:List Int) (ok:Bool),e=.returned (.tuple #[v.val t,.slice oa L.length oc,.slice da l.length dc,.bool ok])/\IsTree w' v t/\Strs w' oa oc L/\Ints w' da dc l/\Below w.heap.size w w'/\Bd t/\Rg t /\
   (ok=true->InfOk t/\L=exT t/\l=zg t t.nodes.length)
theorem jR{w W:World}{tb:Nat}{v:TreeV}{t:Tr}{A:Act}{oa:Option Addr}{oc:Nat}{L:List (List UInt8)}{da:Option Addr}{dc:Nat}{l:List Int}{ok:Bool}(hB:BxW w W tb v t)(hs:Strs W oa oc L)(hi:Ints W da dc l)
 (bd:Bd t)(rg:Rg t)(hok:ok=true->InfOk t/\L=exT t/\l=zg t t.nodes.length)
 (h2:A.tmps.getD 2 undef=.pointer (some ⟨w.heap.size,0,none⟩))(h3:A.tmps.getD 3 undef=.slice oa L.length oc)(h4:A.tmps.getD 4 undef=.slice da l.length dc)(h5:A.tmps.getD 5 undef=.bool ok)(hd:A.defers=[])
 {W9:World}(h9:Below (put2 W w.heap.size (.slice v.na t.nodes.length v.nc) (.slice v.ia t.items.length v.ic)).heap.size (put2 W w.heap.size (.slice v.na t.nodes.length v.nc) (.slice v.ia t.items.length v.ic)) W9) :
 bodyPost prog Tryz.f6 (pJ w) Exit.ret A W9:=by
 have hb:=hB.base;have ht:=hB.tree;have hh:=(hb.block w.heap.size (by omega)).trans (World.alloc_heap_new w (.cells #[.slice none 0 0,.slice none 0 0] 25));have r0:=za (i:=0) (v:=.slice none 0 0) hh rfl;have r1:=za (i:=1) (v:=.slice none 0 0) hh rfl;have ha:=fK hb;obtain⟨k0,k1,-,-,-,ht,hf⟩:=(TreeAt.put r0 r1 (zr (i:=0) hh) (zr (i:=1) hh) ha ht hB.out).step h9
 have hg:Ints (put2 W w.heap.size (.slice v.na t.nodes.length v.nc) (.slice v.ia t.items.length v.ic)) da dc l:=tT hi (by omega) ha (by
  intro v hv
  cases l with
  |nil=>cases hv
  |cons x l=>cases hv;exact⟨_,_,rfl⟩) (iC _ _ _ _)
 have hk:Strs (put2 W w.heap.size (.slice v.na t.nodes.length v.nc) (.slice v.ia t.items.length v.ic)) oa oc L:=by
  obtain⟨q1,q2,q3,q4⟩:=hs;refine⟨q1,q2,q3,?_⟩;rcases q4 with q4|⟨b,o,e,he,hc⟩
  .exact .inl q4
  .by_cases h0:L.length=0
   .exact .inl h0
   .refine .inr ⟨b,o,e,Nat.lt_of_lt_of_le he (iC _ _ _ _).size,fun i hi=>?_⟩
    have hj:b≠w.heap.size:=fun e2=>by
     have hl:0<(kP L).length:=by simp;omega
     obtain⟨a',n',c',h⟩:=ha _ _ (by rw[<-e2];exact hc 0 hl);simp[strV]at h
    exact(World.cell?_of_block (a:=⟨b,o+i,none⟩) ((iC W w.heap.size _ _).block b he hj)).trans (hc i hi)
 refine bodyPost_ret (v:=.tuple #[v.val t,.slice oa L.length oc,.slice da l.length dc,.bool ok]) ?_ hd ⟨v,t,oa,oc,L,da,dc,l,ok,rfl,ht,Row.mono hk h9 nlr,Row.mono hg h9 nlr,hf,bd,rg,hok⟩;simp only[Array.getD_eq_getD_getElem?]at h2 h3 h4 h5;unfold TreeV.val;simp[results,results6,go_sem,loadVar,h2,h3,h4,h5,k0,k1,Result.andThen]
structure InfB (w X:World) (tb kb nb:Nat) (v:TreeV) (t:Tr) (oa:Option Addr) (oc:Nat) (da:Option Addr) (dc:Nat):Prop where
 bx:BxW w X tb v t
 k0:X.cell? ⟨kb,0,none⟩=some (.slice oa t.nodes.length oc)
 n0:X.cell? ⟨nb,0,none⟩=some (.slice da t.nodes.length dc)
 st:Row 1 X oa t.nodes.length oc (kP (exT t))
 de:Row 1 X da t.nodes.length dc (zq (zg t t.nodes.length))
 kl:w.heap.size+1<=kb
 nl:w.heap.size+1<=nb
theorem InfB.step{w X X':World}{tb kb nb:Nat}{v:TreeV}{t:Tr}{oa:Option Addr}{oc:Nat}{da:Option Addr}{dc:Nat}(h:InfB w X tb kb nb v t oa oc da dc)(hb:Below X.heap.size X X'):InfB w X' tb kb nb v t oa oc da dc:=
 ⟨h.bx.step hb,(hb.cell (p:=⟨kb,0,none⟩) (World.block_lt_of_cell? X _ h.k0)).trans h.k0,(hb.cell (p:=⟨nb,0,none⟩) (World.block_lt_of_cell? X _ h.n0)).trans h.n0,Row.mono h.st hb nlr,Row.mono h.de hb nlr,h.kl,h.nl⟩
theorem tL(W:World):Strs W none 0 []:=⟨rfl,nlr,(fun _=>rfl),.inl rfl⟩
theorem tK(W:World):Ints W none 0 []:=⟨rfl,nlr,(fun _=>rfl),.inl rfl⟩
theorem lL(s:List UInt8)(w:World)(hs:s.length<=maxLen)(hg:GVK w) :
 Calls prog 6 #[strV s] w (pJ w):=by
 have hW:prog.follows .mixedOrders=true:=by kernel_rfl
 have hA:Below w.heap.size w (w.alloc (.cells #[.slice none 0 0,.slice none 0 0] 25)):=(Below.refl _ w).alloc nlr _;have Ht:=Hd hA;have HG:=Hd hg;have Hv:=Hd (hg.gv.mono hA nlr);clear hA hg;by_cases hl:s.length<=400
 .have hU:¬(400:Int)<(s.length:Int):=by omega
  go_enter func6,ntmps6
  go_upto_region 4 with(
   go_at_call 21
   refine(oR s _ (by omega) Hv.o).mono ?_;rintro e w1⟨⟨na,nc,ia,ic⟩,t,ok,rfl,ht,hv,hw,hQ,-⟩;unfold TreeV.val;have Hc:Hid (BxW w (w1.alloc (.cells #[.slice na t.nodes.length nc,.slice ia t.items.length ic] 25)) w1.heap.size ⟨na,nc,ia,ic⟩ t):=Hd ⟨(hv.alloc hv.size _).mono (by simp),bZ rfl,bZ rfl,ht.mono ((Below.refl _ w1).alloc nlr _) nlr,by simp,by have:=hv.size;simpa using this⟩;have Hb:=Hd hw;have Hh:=Hd hQ
   clear ht hv hw hQ)
  obtain⟨X1,hI⟩:∃X,w1.alloc (.cells #[.slice na t.nodes.length nc,.slice ia t.items.length ic] 25)=X:=⟨_,rfl⟩
  obtain⟨tb,hS⟩:∃g,w1.heap.size=g:=⟨_,rfl⟩
  rw[hI,hS]at Hc|-;clear hI hS;rcases ok with _|_
  .have hh:=(Hc.o.base.block w.heap.size (by omega)).trans (World.alloc_heap_new w (.cells #[.slice none 0 0,.slice none 0 0] 25))
   have r0:=za (i:=0) (v:=.slice none 0 0) hh rfl;have r1:=za (i:=1) (v:=.slice none 0 0) hh rfl;have f0:=zr (i:=0) hh;have f1:=zr (i:=1) hh;have c0:=Hc.o.c0;have c1:=Hc.o.c1;have hp:=Hc.o.gl;have hX:tb≠w.heap.size:=by have:=Hc.o.lo;omega
   clear hh;go_wp2;exact jR Hc.o (tL _) (tK _) Hb.o Hh.o (fun h=>by cases h) rfl rfl rfl rfl rfl brf
  .have h8:=Hb.o.n
   have hO:∀X,BxW w X tb ⟨na,nc,ia,ic⟩ t->GVK X:=fun X h=>HG.o.mono h.out nlr;have Hn:=Hd hO;clear hO;have c0:=Hc.o.c0;have c1:=Hc.o.c1;have hp:=Hc.o.gl;by_cases hok:InfOk t
   .have hR:=cR (zt hok.1).check (zt hok.1).err
    have Hq:=Hd hR;have Ho:=Hd hok;have hK:(zg t t.nodes.length).length=t.nodes.length:=zP t _;have Hg:=Hd hK;obtain⟨wf,G⟩:=zi Hb.o hok.1;have HB:=Hd wf;have Hw:=Hd G;clear hR hok hK wf G
    go_upto_region 7 with(first
     | (go_at_call 17
        refine(kW _ t _ Hb.o Hh.o (Hn.o _ Hj.o) Hr.o).mono ?_;rintro e w4 (⟨-,oa,oc,rfl,ho,hq⟩|⟨k,er,hF,-⟩);rotate_left
        .exact(Ho.o.no hF).elim
        have Hm:=Hd (Hj.o.step hq);have Hz:=Hd (zT ho)
        clear ho hq)
     | (go_at_call 10
        refine(fZ ⟨na,nc,ia,ic⟩ t _ Hb.o Hc.o.tree).mono ?_;rintro e w3⟨⟨ma,mc,ja,jc⟩,B,ks,rfl,-,hf,he,-,hc⟩;unfold TreeV.val;have Hr:=Hd (show IsTree w3 ⟨ma,mc,ja,jc⟩ t from⟨hf.nodes,he⟩);have Hj:=Hd (Hc.o.step hc)
        clear hf he hc))
    obtain⟨X5,hm⟩:∃X,w4.alloc (.cells #[.slice oa t.nodes.length oc] 53)=X:=⟨_,rfl⟩
    have hB:Below w4.heap.size w4 X5:=by rw[<-hm];exact brf.alloc nlr _
    have Hp:Hid (X5.cell? ⟨w4.heap.size,0,none⟩=some (.slice oa t.nodes.length oc)):=Hd (by rw[<-hm];exact bZ rfl);have Ha:=Hd (Hm.o.step hB);have HA:Hid (Row 1 X5 oa t.nodes.length oc (kP (exT t))):=Hd (by have:=Row.mono Hz.o hB nlr;rwa[cP]at this);rw[hm];clear hm hB c0 c1 hp;obtain⟨kb,hG⟩:∃g,w4.heap.size=g:=⟨_,rfl⟩
    have hy:w.heap.size+1<=kb:=by have:=Hm.o.base.size;rw[<-hG];simpa using this
    have Hy:=Hd hy;rw[hG]at Hp|-;clear hG hy;have c0:=Ha.o.c0;have c1:=Ha.o.c1;have hp:=Ha.o.gl
    go_upto_region 8 with(first
     | (go_at_call 22
        refine(jC _ t _ Hb.o Hh.o (Hn.o _ (Ha.o.step Hf.o)).gv Hs.o).mono ?_;rw[Hq.o];rintro e w7⟨da,dc,rfl,ho,hu⟩;have hM:=dX ho;simp only[Hg.o];have Hk:=Hd (Hf.o.trans (hu.mono Hf.o.size));have Hu:=Hd hM
        clear ho hu hM)
     | (go_at_call 10
        refine(fZ ⟨na,nc,ia,ic⟩ t _ Hb.o Ha.o.tree).mono ?_;rintro e w6⟨⟨ma,mc,ja,jc⟩,B,ks,rfl,-,hf,he,-,hc⟩;unfold TreeV.val;have Hs:=Hd (show IsTree w6 ⟨ma,mc,ja,jc⟩ t from⟨hf.nodes,he⟩);have Hf:=Hd hc
        clear hf he hc))
    obtain⟨X8,hn⟩:∃X,w7.alloc (.cells #[.slice da t.nodes.length dc] 62)=X:=⟨_,rfl⟩
    have hC:Below w7.heap.size w7 X8:=by rw[<-hn];exact brf.alloc nlr _
    have hk:Below X5.heap.size X5 X8:=Hk.o.trans (hC.mono Hk.o.size);have HI:Hid (InfB w X8 tb kb w7.heap.size ⟨na,nc,ia,ic⟩ t oa oc da dc):=Hd ⟨Ha.o.step hk,(hk.cell (p:=⟨kb,0,none⟩) (World.block_lt_of_cell? X5 _ Hp.o)).trans Hp.o,by rw[<-hn];exact bZ rfl,Row.mono HA.o hk nlr,by have:=Row.mono Hu.o hC nlr;rwa[Hg.o]at this,Hy.o,by have:=(Ha.o.step Hk.o).base.size;simpa using this⟩;rw[hn];clear hn hC hk c0 c1 hp;obtain⟨nb,hP⟩:∃g,w7.heap.size=g:=⟨_,rfl⟩
    rw[hP]at HI|-;clear hP;have c0:=HI.o.bx.c0;have k0:=HI.o.k0;have n0:=HI.o.n0
    go_upto_region 10 with fail
    clear c0 k0 n0;go_wp2
    go_loopw [14] (fun t14 wr=>∃i:Nat,t14=.int .i64 i/\i<=t.nodes.length/\Hid (InfB w wr tb kb nb ⟨na,nc,ia,ic⟩ t oa oc da dc)) (fun t14 _=>t.nodes.length-(intOf t14).toNat)
    case atStart=>exact⟨0,rfl,Nat.zero_le _,HI⟩
    case round=>
     obtain⟨i,rfl,hi,He⟩:=hrel;rename World=>wo
     have c0:=He.o.bx.c0;have c1:=He.o.bx.c1;have k0:=He.o.k0;have n0:=He.o.n0;have tgl:=He.o.bx.gl;have ngl:=World.block_lt_of_cell? wo _ n0;have kgl:=World.block_lt_of_cell? wo _ k0;by_cases hlt:i<t.nodes.length
     .obtain⟨bd,od,ed,hw,hE⟩:=Ints.at (show Ints wo da dc (zg t t.nodes.length) by unfold Ints;rw[Hg.o];exact He.o.de) (show i<(zg t t.nodes.length).length by rw[Hg.o];exact hlt)
      subst ed
      have hN:(zg t t.nodes.length)[i]'(by rw[Hg.o];exact hlt)=means t i:=by
       have:=yS (t:=t) hlt;rw[List.getElem?_eq_getElem (by rw[Hg.o];exact hlt)]at this;exact Option.some.inj this
      rw[hN]at hE;obtain⟨h0,h1⟩:=dE (t:=t) HB.o (node:=i);obtain⟨x,hx⟩:∃x,means t (i:Int)=x:=⟨_,rfl⟩
      rw[hx]at hE h0 h1;have h9:decide (x < -1)=false:=by simp;omega
      have hx4:decide ((t.nodes.length:Int)<=x)=false:=by simp;omega
      have HD:=Hd hlt;have hV:(i:Int)<(t.nodes.length:Int):=by omega
      clear hx hN
      go_upto_region 13 with fail
      refine N.region_J hW (by kernel_rfl) (by kernel_rfl) (fun Wz=>Below (wo).heap.size (wo) Wz) (brf.drew) ?_
      iterate 17 (refine N.Walk.cons ?_ (N.StepP.pure rfl ?_) ?_;rotate_left;(intro W hJ;obtain⟨h6,h7⟩:=bcell hJ;go_simp;rfl);simp only[N.pz])
      refine N.Walk.nil fun W hJ=>?_;rename World=>wk
      have Hx:=Hd (He.o.step hJ);clear hJ c0 c1 k0 n0 tgl ngl kgl hE hw;go_wp2
      go_loopw [15] (fun t15 wz=>∃j:Nat,t15=.int .i64 j/\j<=(t.nd (i:Int)).kids.length/\Hid (InfB w wz tb kb nb ⟨na,nc,ia,ic⟩ t oa oc (some ⟨bd,od,none⟩) dc)) (fun t15 _=>(t.nd (i:Int)).kids.length-(intOf t15).toNat)
      case atStart=>exact⟨0,rfl,Nat.zero_le _,Hx⟩
      case round=>
       obtain⟨j,rfl,hj,Hl⟩:=hrel;have c0:=Hl.o.bx.c0;obtain⟨b,o,ka,kc,ea,hb,-,-,-,m3,-,hz⟩:=Hl.o.bx.tree.nodes.at hlt;simp only at ea;rw[ea]at c0;have tgl:=Hl.o.bx.gl;have hy:=Hb.o.k _ (List.getElem_mem hlt);rw[<-t.nd_at hlt]at m3 hz hy;by_cases hjl:j<(t.nd (i:Int)).kids.length
       .obtain⟨a,ha,h4⟩:=aN Hw.o hlt (List.getElem_mem hjl)
        obtain⟨bk,ok,ek,h5,hT⟩:=Ints.at hz hjl;rw[ha]at hT;subst ek;have h2:decide ((a:Int)<0)=false:=by simp
        have h3:decide ((i:Int)<=(a:Int))=false:=by simp;omega
        have HC:=Hd hjl;clear ha ea hz;go_wp2
        go_roundw
        case rel=>exact⟨j+1,by go_num,by omega,Hl⟩
        case measure=>simp[intOf];omega
       .obtain rfl:j=(t.nd (i:Int)).kids.length:=by omega
        clear ea hz;go_wp2
        go_roundw
        case rel=>exact⟨i+1,by go_num,by omega,Hl⟩
        case measure=>simp[intOf];omega
     .obtain rfl:i=t.nodes.length:=by omega
      have hh:=(He.o.bx.base.block w.heap.size (by omega)).trans (World.alloc_heap_new w (.cells #[.slice none 0 0,.slice none 0 0] 25));have r0:=za (i:=0) (v:=.slice none 0 0) hh rfl;have r1:=za (i:=1) (v:=.slice none 0 0) hh rfl;have f0:=zr (i:=0) hh;have f1:=zr (i:=1) hh;have hH:tb≠w.heap.size:=by have:=He.o.bx.lo;omega
      have hY:kb≠w.heap.size:=by have:=He.o.kl;omega
      have hZ:nb≠w.heap.size:=by have:=He.o.nl;omega
      clear hh;go_wp2;go_region;go_wp2;have hL:(exT t).length=t.nodes.length:=cP t;have hD:=Hg.o;exact jR (v:=⟨na,nc,ia,ic⟩) (L:=exT t) (l:=zg t t.nodes.length) (ok:=true) He.o.bx (by unfold Strs;rw[hL];exact He.o.st) (by unfold Ints;rw[hD];exact He.o.de) Hb.o Hh.o (fun _=>⟨Ho.o,rfl,rfl⟩) rfl (by rw[hL];rfl) (by rw[hD];rfl) rfl rfl brf.drew
   .obtain⟨L1,A1,E1,hr⟩:∃L A E,zb t=(L,A,E):=⟨_,_,_,rfl⟩
    have Hq:=Hd hr;have Ho:=Hd hok;clear hr hok
    go_upto_region 7 with(first
     | (go_at_call 17
        refine(kW _ t _ Hb.o Hh.o (Hn.o _ Hj.o) Hr.o).mono ?_;rintro e w4 (⟨hF,-⟩|⟨k,er,-,hX,rfl,hq⟩)
        .exact(Ho.o hF).elim
        have Hm:=Hd (Hj.o.step hq)
        clear hq)
     | (go_at_call 10
        refine(fZ ⟨na,nc,ia,ic⟩ t _ Hb.o Hc.o.tree).mono ?_;rintro e w3⟨⟨ma,mc,ja,jc⟩,B,ks,rfl,-,hf,he,-,hc⟩;unfold TreeV.val;have Hr:=Hd (show IsTree w3 ⟨ma,mc,ja,jc⟩ t from⟨hf.nodes,he⟩);have Hj:=Hd (Hc.o.step hc)
        clear hf he hc))
    obtain⟨X5,hm⟩:∃X,w4.alloc (.cells #[.slice none 0 0] 53)=X:=⟨_,rfl⟩
    have Ha:=Hd (Hm.o.step (X':=X5) (by rw[<-hm];exact brf.alloc nlr _));rw[hm];clear hm c0 c1 hp;have c0:=Ha.o.c0;have c1:=Ha.o.c1;have hp:=Ha.o.gl
    go_upto_region 8 with(first
     | (go_at_call 22
        refine(jC _ t _ Hb.o Hh.o (Hn.o _ (Ha.o.step Hf.o)).gv Hs.o).mono ?_;rw[Hq.o];rintro e w7⟨da,dc,rfl,-,hu⟩;have Hk:=Hd (Ha.o.step (Hf.o.trans (hu.mono Hf.o.size)))
        clear hu)
     | (go_at_call 10
        refine(fZ ⟨na,nc,ia,ic⟩ t _ Hb.o Ha.o.tree).mono ?_;rintro e w6⟨⟨ma,mc,ja,jc⟩,B,ks,rfl,-,hf,he,-,hc⟩;unfold TreeV.val;have Hs:=Hd (show IsTree w6 ⟨ma,mc,ja,jc⟩ t from⟨hf.nodes,he⟩);have Hf:=Hd hc
        clear hf he hc))
    obtain⟨X8,hn⟩:∃X,w7.alloc (.cells #[.slice da L1.length dc] 62)=X:=⟨_,rfl⟩
    have Hi:=Hd (Hk.o.step (X':=X8) (by rw[<-hn];exact brf.alloc nlr _));rw[hn];clear hn c0 c1 hp;have hh:=(Hi.o.base.block w.heap.size (by omega)).trans (World.alloc_heap_new w (.cells #[.slice none 0 0,.slice none 0 0] 25));have r0:=za (i:=0) (v:=.slice none 0 0) hh rfl;have r1:=za (i:=1) (v:=.slice none 0 0) hh rfl;have f0:=zr (i:=0) hh;have f1:=zr (i:=1) hh;have c0:=Hi.o.c0;have c1:=Hi.o.c1;have hp:=Hi.o.gl;have hH:tb≠w.heap.size:=by have:=Hi.o.lo;omega
    clear hh;go_wp2;exact jR Hi.o (tL _) (tK _) Hb.o Hh.o (fun h=>by cases h) rfl rfl rfl rfl rfl brf
 .have hU:(400:Int)<(s.length:Int):=by omega
  go_enter func6,ntmps6;go_wp2;refine bodyPost_ret (v:=.tuple #[.agg #[.slice none 0 0,.slice none 0 0],.slice none 0 0,.slice none 0 0,.bool false]) (by simp[results,results6,go_sem,loadVar,Result.andThen]) rfl ⟨⟨none,0,none,0⟩,⟨[],[]⟩,none,0,[],none,0,[],false,rfl,⟨⟨[],rfl,⟨rfl,nlr,(fun _=>rfl),.inl rfl⟩,(fun i hi=>by cases hi)⟩,⟨rfl,nlr,(fun _=>rfl),.inl rfl⟩⟩,tL _,tK _,Ht.o,⟨by simp,by simp,(fun d hd=>by cases hd),(fun d hd=>by cases hd)⟩,(fun i hi=>by cases hi),(fun h=>by cases h)⟩
end
end Go.Proofs.YtcdkdiedphhdhaaGreatDoor
