/- Part of a proof. -/
import Derived.Test.YtokdgiphdnjeoaaGreatDoorQ26
set_option maxRecDepth 100000
set_option maxHeartbeats 8000000
set_option linter.unusedVariables false
set_option linter.unusedSimpArgs false
open Go.Proofs.Tryz
namespace Go.Proofs.YtokdgiphdnjeoaaGreatDoor
section
open Go Go.RowKit
theorem LQ{c:PC}(he:OkC c){kindOf:RdP}{s:PS}(hkindOf:∀s',s.next<s'.next→zt c 319 kindOf s'):zt c 318 (uT kindOf c.E) s:=by
 intro F d X h;have HE:=Hd he;have HkindOf:=Hd hkindOf;have HP0:=Hd h;have HN0:Hid (s.next≤s.next):=Hd nlr;obtain⟨S,hS⟩:∃S,uT kindOf c.E s=S:=⟨_,rfl⟩
 try rw[hS]
 unfold uT at hS;obtain⟨T,hT⟩:∃T,zi c.E s=T:=⟨_,rfl⟩
 rw[hT]at hS;have HT:=Hd hT;clear he h hkindOf;have hmo:prog.follows .mixedOrders=true:=by kernel_rfl
 have HS0:=Hd hS.symm;clear hS hT;go_enter func318,ntmps318
 go_wp2_with (first
  | (go_at_call 244;refine(bC HE.out HP1.out _).mono ?_;rintro e w2 (⟨ps,hr,rfl,hb⟩|⟨hr,-,rfl,hp⟩);(exact⟨rfl,.er (zk HS1.out hr) hb⟩);have HS2:=Hd (zj HS1.out hr);have HP2:=Hd hp;clear hp hr;have HN2:Hid (s.next<_):=Hd (Nat.lt_succ_of_le (Nat.le_of_lt HN1.out));obtain⟨c2_00,c2_01,c2_02⟩:=HP2.out.own.tk (b:=w1.heap.size) (t:=T) (by simp);)
  | (go_at_call 314;refine(iV HE.out HP0.out).mono ?_;rintro e w1 (⟨ps,hr,rfl,hb⟩|⟨hr,-,he,hp⟩);(exact⟨rfl,.er (zk HS0.out hr) hb⟩);have q:=zj HS0.out hr;rw[HT.out]at he;subst he;have HS1:=Hd q;have HP1:=Hd (hp.alloc (tkO T));clear hp hr q;have HN1:Hid (s.next<_):=Hd (Nat.lt_succ_of_le HN0.out);obtain⟨c1_00,c1_01,c1_02⟩:=HP1.out.own.tk (b:=w1.heap.size) (t:=T) (by simp);))
 refine N.region_C [false,false,false,false,false,true,true,true,true] [?vC1_0,?vC1_1,?vC1_2,?vC1_3,?vC1_4,undef,undef,undef,undef] hmo (by kernel_rfl) (by kernel_rfl) (by kernel_rfl) (by kernel_rfl) rfl rfl (fun ch w=>RdI c F d s.next S (.panicked ch) w) (fun ch b w hd h=>⟨hd,h⟩) (fun Wz=>Wz.heap[w1.heap.size]?=some (tkO T)) (HP2.out.drew.own (w1.heap.size,tkO T) (by simp)) ?wC1_ ?_
 case wC1_=>
  iterate 5 (refine N.WalkC.still (N.StillP.known rfl ?_) ?_;(intro W hJ;have j00:=za (i:=0) hJ rfl;have j01:=za (i:=1) hJ rfl;have j02:=za (i:=2) hJ rfl;go_simp;rfl);simp only[N.pz])
  refine N.WalkC.chain fun u5=>?_;simp only[N.pz];refine N.WalkC.chain fun u6=>?_;simp only[N.pz];refine N.WalkC.chain fun u7=>?_;simp only[N.pz];refine N.WalkC.chain fun u8=>?_;simp only[N.pz];exact .nil
 iterate 5 (refine N.TailC.still ?_;simp only[N.pz])
 refine N.TailC.call (f:=319) (args:=#[c.ptr]) rfl ?a5 ?_;case a5=>go_simp;try rfl
 refine(HkindOf.out _ HN2.out _ _ _ HP2.out.drew).mono ?_;rintro e w3 (⟨ps,hr,rfl,hb⟩|⟨a3,s3,hr,rfl,hn,hp⟩)
 ·exact .inr ⟨_,rfl,.er (zk HS2.out hr) hb⟩
 have HS3:=Hd (zj HS2.out hr);have HP3:=Hd hp;have HN3:=Hd (Nat.lt_of_lt_of_le HN2.out hn);clear hp hn hr;refine .inl ⟨_,rfl,(fun _=>HP3.out.own (w1.heap.size,tkO T) (by simp)),?_⟩;simp only[N.pz];refine N.TailC.run (v:=.slice (some ⟨w3.heap.size,0,none⟩) 1 1) (w':=w3.alloc (.cells #[intV a3] 3)) rfl ?a6 (fun _=>(HP3.out.alloc _).drop.own (w1.heap.size,tkO T) (by simp)) ?b6;case a6=>go_simp;try rfl
 simp only[N.pz];refine N.TailC.call (f:=316) (args:=#[c.ptr,.int .u8 34,tkA T,strV T.text,intV 0,.slice (some ⟨w3.heap.size,0,none⟩) 1 1]) rfl ?a7 ?_;case a7=>go_simp;try rfl
 refine(kA HE.out HP3.out 34 T T.text 0 [a3] rfl).mono ?_;rintro e w4⟨rfl,hp⟩;have HP4:=Hd hp;have HS4:=HS3;have HN4:=HN3;clear hp;refine .inl ⟨_,rfl,(fun _=>HP4.out.own (w1.heap.size,tkO T) (by simp)),?_⟩;simp only[N.pz];refine N.TailC.run (v:=intV s3.nodes.length) (w':=w4) rfl ?a8 (fun h=>absurd rfl h) ?b8;case a8=>go_simp;try rfl
 simp only[N.pz];refine N.TailC.nil ?_;go_wp2;go_ret;exact .ok HS4.out (Nat.le_of_lt HN4.out) ((HP4.out.drop).less (by omega))
theorem OM{c:PC}(he:OkC c){expr:RdP}{s:PS}(hexpr:∀s',s.next<s'.next→zt c 322 expr s'):zt c 342 (putP expr c.E) s:=by
 intro F d X h;have HE:=Hd he;have Hexpr:=Hd hexpr;have HP0:=Hd h;have HN0:Hid (s.next≤s.next):=Hd nlr;obtain⟨S,hS⟩:∃S,putP expr c.E s=S:=⟨_,rfl⟩
 try rw[hS]
 unfold putP at hS;obtain⟨T,hT⟩:∃T,zi c.E s=T:=⟨_,rfl⟩
 rw[hT]at hS;have HT:=Hd hT;clear he h hexpr;have hmo:prog.follows .mixedOrders=true:=by kernel_rfl
 have HS0:=Hd hS.symm;clear hS hT;go_enter func342,ntmps342
 go_wp2_with (first
  | (go_at_call 244;refine(bC HE.out HP1.out _).mono ?_;rintro e w2 (⟨ps,hr,rfl,hb⟩|⟨hr,-,rfl,hp⟩);(exact⟨rfl,.er (zk HS1.out hr) hb⟩);have HS2:=Hd (zj HS1.out hr);have HP2:=Hd hp;clear hp hr;have HN2:Hid (s.next<_):=Hd (Nat.lt_succ_of_le (Nat.le_of_lt HN1.out));obtain⟨c2_00,c2_01,c2_02⟩:=HP2.out.own.tk (b:=w1.heap.size) (t:=T) (by simp);)
  | (go_at_call 314;refine(iV HE.out HP0.out).mono ?_;rintro e w1 (⟨ps,hr,rfl,hb⟩|⟨hr,-,he,hp⟩);(exact⟨rfl,.er (zk HS0.out hr) hb⟩);have q:=zj HS0.out hr;rw[HT.out]at he;subst he;have HS1:=Hd q;have HP1:=Hd (hp.alloc (tkO T));clear hp hr q;have HN1:Hid (s.next<_):=Hd (Nat.lt_succ_of_le HN0.out);obtain⟨c1_00,c1_01,c1_02⟩:=HP1.out.own.tk (b:=w1.heap.size) (t:=T) (by simp);))
 refine N.region_C [false,false,false,false,false,true,true,true,true] [?vC2_0,?vC2_1,?vC2_2,?vC2_3,?vC2_4,undef,undef,undef,undef] hmo (by kernel_rfl) (by kernel_rfl) (by kernel_rfl) (by kernel_rfl) rfl rfl (fun ch w=>RdI c F d s.next S (.panicked ch) w) (fun ch b w hd h=>⟨hd,h⟩) (fun Wz=>Wz.heap[w1.heap.size]?=some (tkO T)) (HP2.out.drew.own (w1.heap.size,tkO T) (by simp)) ?wC2_ ?_
 case wC2_=>
  iterate 5 (refine N.WalkC.still (N.StillP.known rfl ?_) ?_;(intro W hJ;have j00:=za (i:=0) hJ rfl;have j01:=za (i:=1) hJ rfl;have j02:=za (i:=2) hJ rfl;go_simp;rfl);simp only[N.pz])
  refine N.WalkC.chain fun u5=>?_;simp only[N.pz];refine N.WalkC.chain fun u6=>?_;simp only[N.pz];refine N.WalkC.chain fun u7=>?_;simp only[N.pz];refine N.WalkC.chain fun u8=>?_;simp only[N.pz];exact .nil
 iterate 5 (refine N.TailC.still ?_;simp only[N.pz])
 refine N.TailC.call (f:=322) (args:=#[c.ptr]) rfl ?a5 ?_;case a5=>go_simp;try rfl
 refine(Hexpr.out _ HN2.out _ _ _ HP2.out.drew).mono ?_;rintro e w3 (⟨ps,hr,rfl,hb⟩|⟨a3,s3,hr,rfl,hn,hp⟩)
 ·exact .inr ⟨_,rfl,.er (zk HS2.out hr) hb⟩
 have HS3:=Hd (zj HS2.out hr);have HP3:=Hd hp;have HN3:=Hd (Nat.lt_of_lt_of_le HN2.out hn);clear hp hn hr;refine .inl ⟨_,rfl,(fun _=>HP3.out.own (w1.heap.size,tkO T) (by simp)),?_⟩;simp only[N.pz];refine N.TailC.run (v:=.slice (some ⟨w3.heap.size,0,none⟩) 1 1) (w':=w3.alloc (.cells #[intV a3] 3)) rfl ?a6 (fun _=>(HP3.out.alloc _).drop.own (w1.heap.size,tkO T) (by simp)) ?b6;case a6=>go_simp;try rfl
 simp only[N.pz];refine N.TailC.call (f:=316) (args:=#[c.ptr,.int .u8 25,tkA T,strV T.text,intV 0,.slice (some ⟨w3.heap.size,0,none⟩) 1 1]) rfl ?a7 ?_;case a7=>go_simp;try rfl
 refine(kA HE.out HP3.out 25 T T.text 0 [a3] rfl).mono ?_;rintro e w4⟨rfl,hp⟩;have HP4:=Hd hp;have HS4:=HS3;have HN4:=HN3;clear hp;refine .inl ⟨_,rfl,(fun _=>HP4.out.own (w1.heap.size,tkO T) (by simp)),?_⟩;simp only[N.pz];refine N.TailC.run (v:=intV s3.nodes.length) (w':=w4) rfl ?a8 (fun h=>absurd rfl h) ?b8;case a8=>go_simp;try rfl
 simp only[N.pz];refine N.TailC.nil ?_;go_wp2;go_ret;exact .ok HS4.out (Nat.le_of_lt HN4.out) ((HP4.out.drop).less (by omega))
theorem OL{c:PC}(he:OkC c){below self:RdP}{s:PS}(hself:∀s',s.next<s'.next→zt c 334 self s')(hbelow:zt c 335 below s):zt c 334 (kI 5 wNot self below c.E) s:=by
 intro F d X h;have HE:=Hd he;have Hself:=Hd hself;have Hbelow:=Hd hbelow;have HP0:=Hd h;have HN0:Hid (s.next≤s.next):=Hd nlr;obtain⟨S,hS⟩:∃S,kI 5 wNot self below c.E s=S:=⟨_,rfl⟩
 try rw[hS]
 unfold kI at hS;obtain⟨T,hT⟩:∃T,zi c.E s=T:=⟨_,rfl⟩
 rw[hT]at hS;have HT:=Hd hT;clear he h hself hbelow;have hmo:prog.follows .mixedOrders=true:=by kernel_rfl
 cases h1:isP c.E s wNot with
 | true=>
   simp only[h1,if_true,if_false,Bool.false_eq_true,ite_true,ite_false]at hS;have HS0:=Hd hS.symm;have H1:=Hd h1;clear hS hT h1;go_enter func334,ntmps334
   go_wp2_with (first
    | (go_at_call 320;refine(eY HE.out HP1.out _ H1.out).mono ?_;rintro e w2 ⟨rfl,hp⟩;have HP2:=Hd hp;clear hp;have HN2:Hid (s.next<_):=Hd (Nat.lt_succ_of_le HN1.out);have HS2:=HS1;obtain⟨c2_00,c2_01,c2_02⟩:=HP2.out.own.tk (b:=w1.heap.size) (t:=T) (by simp);)
    | (go_at_call 241;refine(zM HE.out HP0.out HT.out).mono ?_;rintro e w1 ⟨rfl,hp⟩;have HP1:=Hd (hp.alloc (tkO T));clear hp;have HN1:=HN0;have HS1:=HS0;obtain⟨c1_00,c1_01,c1_02⟩:=HP1.out.own.tk (b:=w1.heap.size) (t:=T) (by simp);))
   refine N.region_C [false,false,false,true,true,true,true] [?vC3_0,?vC3_1,?vC3_2,undef,undef,undef,undef] hmo (by kernel_rfl) (by kernel_rfl) (by kernel_rfl) (by kernel_rfl) rfl rfl (fun ch w=>RdI c F d s.next S (.panicked ch) w) (fun ch b w hd h=>⟨hd,h⟩) (fun Wz=>Wz.heap[w1.heap.size]?=some (tkO T)) (HP2.out.drew.own (w1.heap.size,tkO T) (by simp)) ?wC3_ ?_
   case wC3_=>
    iterate 3 (refine N.WalkC.still (N.StillP.known rfl ?_) ?_;(intro W hJ;have j00:=za (i:=0) hJ rfl;have j01:=za (i:=1) hJ rfl;have j02:=za (i:=2) hJ rfl;go_simp;rfl);simp only[N.pz])
    refine N.WalkC.chain fun u3=>?_;simp only[N.pz];refine N.WalkC.chain fun u4=>?_;simp only[N.pz];refine N.WalkC.chain fun u5=>?_;simp only[N.pz];refine N.WalkC.chain fun u6=>?_;simp only[N.pz];exact .nil
   iterate 3 (refine N.TailC.still ?_;simp only[N.pz])
   refine N.TailC.call (f:=334) (args:=#[c.ptr]) rfl ?a3 ?_;case a3=>go_simp;try rfl
   refine(Hself.out _ HN2.out _ _ _ HP2.out.drew).mono ?_;rintro e w3 (⟨ps,hr,rfl,hb⟩|⟨a3,s3,hr,rfl,hn,hp⟩)
   ·exact .inr ⟨_,rfl,.er (zk HS2.out hr) hb⟩
   have HS3:=Hd (zj HS2.out hr);have HP3:=Hd hp;have HN3:=Hd (Nat.lt_of_lt_of_le HN2.out hn);clear hp hn hr;refine .inl ⟨_,rfl,(fun _=>HP3.out.own (w1.heap.size,tkO T) (by simp)),?_⟩;simp only[N.pz];refine N.TailC.run (v:=.slice (some ⟨w3.heap.size,0,none⟩) 1 1) (w':=w3.alloc (.cells #[intV a3] 3)) rfl ?a4 (fun _=>(HP3.out.alloc _).drop.own (w1.heap.size,tkO T) (by simp)) ?b4;case a4=>go_simp;try rfl
   simp only[N.pz];refine N.TailC.call (f:=316) (args:=#[c.ptr,.int .u8 5,tkA T,strV [],intV 0,.slice (some ⟨w3.heap.size,0,none⟩) 1 1]) rfl ?a5 ?_;case a5=>go_simp;try rfl
   refine(kA HE.out HP3.out 5 T [] 0 [a3] rfl).mono ?_;rintro e w4⟨rfl,hp⟩;have HP4:=Hd hp;have HS4:=HS3;have HN4:=HN3;clear hp;refine .inl ⟨_,rfl,(fun _=>HP4.out.own (w1.heap.size,tkO T) (by simp)),?_⟩;simp only[N.pz];refine N.TailC.run (v:=intV s3.nodes.length) (w':=w4) rfl ?a6 (fun h=>absurd rfl h) ?b6;case a6=>go_simp;try rfl
   simp only[N.pz];refine N.TailC.nil ?_;go_wp2;go_ret;exact .ok HS4.out (Nat.le_of_lt HN4.out) ((HP4.out.drop).less (by omega))
 | false=>
   simp only[h1,if_true,if_false,Bool.false_eq_true,ite_true,ite_false]at hS;have HS0:=Hd hS.symm;have H1:=Hd h1;clear hS hT h1;go_enter func334,ntmps334
   go_wp2_with (first
    | (go_at_call 335;refine(Hbelow.out _ _ _ HP2.out).mono ?_;rintro e w3 (⟨ps,hr,rfl,hb⟩|⟨a3,s3,hr,rfl,hn,hp⟩);(exact⟨rfl,.er (HS2.out.trans hr) hb⟩);have HS3:=Hd (HS2.out.trans hr);have HP3:=Hd hp;clear hp hr;have HN3:=Hd (Nat.le_trans HN2.out hn);clear hn;obtain⟨c3_00,c3_01,c3_02⟩:=HP3.out.own.tk (b:=w1.heap.size) (t:=T) (by simp);)
    | (go_at_call 320;refine(dE HE.out HP1.out _ H1.out).mono ?_;rintro e w2 ⟨rfl,hp⟩;have HP2:=Hd hp;clear hp;have HN2:=HN1;have HS2:=HS1;obtain⟨c2_00,c2_01,c2_02⟩:=HP2.out.own.tk (b:=w1.heap.size) (t:=T) (by simp);)
    | (go_at_call 241;refine(zM HE.out HP0.out HT.out).mono ?_;rintro e w1 ⟨rfl,hp⟩;have HP1:=Hd (hp.alloc (tkO T));clear hp;have HN1:=HN0;have HS1:=HS0;obtain⟨c1_00,c1_01,c1_02⟩:=HP1.out.own.tk (b:=w1.heap.size) (t:=T) (by simp);))
   go_ret;exact .ok HS3.out HN3.out ((HP3.out.drop).less (by omega))
theorem LR{c:PC}(he:OkC c){below self:RdP}{s:PS}(hself:∀s',s.next<s'.next→zt c 338 self s')(hbelow:zt c 339 below s):zt c 338 (kI 4 pX self below c.E) s:=by
 intro F d X h;have HE:=Hd he;have Hself:=Hd hself;have Hbelow:=Hd hbelow;have HP0:=Hd h;have HN0:Hid (s.next≤s.next):=Hd nlr;obtain⟨S,hS⟩:∃S,kI 4 pX self below c.E s=S:=⟨_,rfl⟩
 try rw[hS]
 unfold kI at hS;obtain⟨T,hT⟩:∃T,zi c.E s=T:=⟨_,rfl⟩
 rw[hT]at hS;have HT:=Hd hT;clear he h hself hbelow;have hmo:prog.follows .mixedOrders=true:=by kernel_rfl
 cases h1:isP c.E s pX with
 | true=>
   simp only[h1,if_true,if_false,Bool.false_eq_true,ite_true,ite_false]at hS;have HS0:=Hd hS.symm;have H1:=Hd h1;clear hS hT h1;go_enter func338,ntmps338
   go_wp2_with (first
    | (go_at_call 320;refine(eY HE.out HP1.out _ H1.out).mono ?_;rintro e w2 ⟨rfl,hp⟩;have HP2:=Hd hp;clear hp;have HN2:Hid (s.next<_):=Hd (Nat.lt_succ_of_le HN1.out);have HS2:=HS1;obtain⟨c2_00,c2_01,c2_02⟩:=HP2.out.own.tk (b:=w1.heap.size) (t:=T) (by simp);)
    | (go_at_call 241;refine(zM HE.out HP0.out HT.out).mono ?_;rintro e w1 ⟨rfl,hp⟩;have HP1:=Hd (hp.alloc (tkO T));clear hp;have HN1:=HN0;have HS1:=HS0;obtain⟨c1_00,c1_01,c1_02⟩:=HP1.out.own.tk (b:=w1.heap.size) (t:=T) (by simp);))
   refine N.region_C [false,false,false,true,true,true,true] [?vC4_0,?vC4_1,?vC4_2,undef,undef,undef,undef] hmo (by kernel_rfl) (by kernel_rfl) (by kernel_rfl) (by kernel_rfl) rfl rfl (fun ch w=>RdI c F d s.next S (.panicked ch) w) (fun ch b w hd h=>⟨hd,h⟩) (fun Wz=>Wz.heap[w1.heap.size]?=some (tkO T)) (HP2.out.drew.own (w1.heap.size,tkO T) (by simp)) ?wC4_ ?_
   case wC4_=>
    iterate 3 (refine N.WalkC.still (N.StillP.known rfl ?_) ?_;(intro W hJ;have j00:=za (i:=0) hJ rfl;have j01:=za (i:=1) hJ rfl;have j02:=za (i:=2) hJ rfl;go_simp;rfl);simp only[N.pz])
    refine N.WalkC.chain fun u3=>?_;simp only[N.pz];refine N.WalkC.chain fun u4=>?_;simp only[N.pz];refine N.WalkC.chain fun u5=>?_;simp only[N.pz];refine N.WalkC.chain fun u6=>?_;simp only[N.pz];exact .nil
   iterate 3 (refine N.TailC.still ?_;simp only[N.pz])
   refine N.TailC.call (f:=338) (args:=#[c.ptr]) rfl ?a3 ?_;case a3=>go_simp;try rfl
   refine(Hself.out _ HN2.out _ _ _ HP2.out.drew).mono ?_;rintro e w3 (⟨ps,hr,rfl,hb⟩|⟨a3,s3,hr,rfl,hn,hp⟩)
   ·exact .inr ⟨_,rfl,.er (zk HS2.out hr) hb⟩
   have HS3:=Hd (zj HS2.out hr);have HP3:=Hd hp;have HN3:=Hd (Nat.lt_of_lt_of_le HN2.out hn);clear hp hn hr;refine .inl ⟨_,rfl,(fun _=>HP3.out.own (w1.heap.size,tkO T) (by simp)),?_⟩;simp only[N.pz];refine N.TailC.run (v:=.slice (some ⟨w3.heap.size,0,none⟩) 1 1) (w':=w3.alloc (.cells #[intV a3] 3)) rfl ?a4 (fun _=>(HP3.out.alloc _).drop.own (w1.heap.size,tkO T) (by simp)) ?b4;case a4=>go_simp;try rfl
   simp only[N.pz];refine N.TailC.call (f:=316) (args:=#[c.ptr,.int .u8 4,tkA T,strV [],intV 0,.slice (some ⟨w3.heap.size,0,none⟩) 1 1]) rfl ?a5 ?_;case a5=>go_simp;try rfl
   refine(kA HE.out HP3.out 4 T [] 0 [a3] rfl).mono ?_;rintro e w4⟨rfl,hp⟩;have HP4:=Hd hp;have HS4:=HS3;have HN4:=HN3;clear hp;refine .inl ⟨_,rfl,(fun _=>HP4.out.own (w1.heap.size,tkO T) (by simp)),?_⟩;simp only[N.pz];refine N.TailC.run (v:=intV s3.nodes.length) (w':=w4) rfl ?a6 (fun h=>absurd rfl h) ?b6;case a6=>go_simp;try rfl
   simp only[N.pz];refine N.TailC.nil ?_;go_wp2;go_ret;exact .ok HS4.out (Nat.le_of_lt HN4.out) ((HP4.out.drop).less (by omega))
 | false=>
   simp only[h1,if_true,if_false,Bool.false_eq_true,ite_true,ite_false]at hS;have HS0:=Hd hS.symm;have H1:=Hd h1;clear hS hT h1;go_enter func338,ntmps338
   go_wp2_with (first
    | (go_at_call 339;refine(Hbelow.out _ _ _ HP2.out).mono ?_;rintro e w3 (⟨ps,hr,rfl,hb⟩|⟨a3,s3,hr,rfl,hn,hp⟩);(exact⟨rfl,.er (HS2.out.trans hr) hb⟩);have HS3:=Hd (HS2.out.trans hr);have HP3:=Hd hp;clear hp hr;have HN3:=Hd (Nat.le_trans HN2.out hn);clear hn;obtain⟨c3_00,c3_01,c3_02⟩:=HP3.out.own.tk (b:=w1.heap.size) (t:=T) (by simp);)
    | (go_at_call 320;refine(dE HE.out HP1.out _ H1.out).mono ?_;rintro e w2 ⟨rfl,hp⟩;have HP2:=Hd hp;clear hp;have HN2:=HN1;have HS2:=HS1;obtain⟨c2_00,c2_01,c2_02⟩:=HP2.out.own.tk (b:=w1.heap.size) (t:=T) (by simp);)
    | (go_at_call 241;refine(zM HE.out HP0.out HT.out).mono ?_;rintro e w1 ⟨rfl,hp⟩;have HP1:=Hd (hp.alloc (tkO T));clear hp;have HN1:=HN0;have HS1:=HS0;obtain⟨c1_00,c1_01,c1_02⟩:=HP1.out.own.tk (b:=w1.heap.size) (t:=T) (by simp);))
   go_ret;exact .ok HS3.out HN3.out ((HP3.out.drop).less (by omega))
theorem tQ{c:PC}(he:OkC c){s:PS}:zt c 315 (iE c.E) s:=by
 intro F d X h;have HE:=Hd he;have HP0:=Hd h;have HN0:Hid (s.next≤s.next):=Hd nlr;obtain⟨S,hS⟩:∃S,iE c.E s=S:=⟨_,rfl⟩
 try rw[hS]
 unfold iE at hS;obtain⟨T,hT⟩:∃T,zi c.E s=T:=⟨_,rfl⟩
 rw[hT]at hS;have HT:=Hd hT;clear he h;have hmo:prog.follows .mixedOrders=true:=by kernel_rfl
 cases h1:isP c.E s pX with
 | true=>
   simp only[h1,if_true,if_false,Bool.false_eq_true,ite_true,ite_false]at hS;have HS0:=Hd hS.symm;have H1:=Hd h1;clear hS hT h1;go_enter func315,ntmps315
   go_wp2_with (first
    | (go_at_call 316;refine(QAdd0 HE.out HP3.out 1 T [] _).mono ?_;rintro e w4 ⟨rfl,hp⟩;have HP4:=Hd hp;clear hp;have HN4:=HN3;have HS4:=HS3;)
    | (go_at_call 321;refine(jP HE.out HP2.out).mono ?_;rintro e w3 (⟨ps,hr,rfl,hb⟩|⟨hr,-,he,hv0,hv1,hp⟩);(exact⟨rfl,.er (zk HS2.out hr) hb⟩);have q:=zj HS2.out hr;subst he;obtain⟨U,hU⟩:∃y,zi c.E s.take=y:=⟨_,rfl⟩;rw[hU];rw[hU]at q hv0 hv1;have HU:=Hd hU;clear hU;obtain⟨v,hv⟩:∃v,valP U.text=v:=⟨_,rfl⟩;rw[hv]at q hv0 hv1;rw[hv];clear hv;(try simp only[Int.neg_mul,Int.one_mul]at q);have HS3:=Hd q;have HP3:=Hd (hp.alloc (tkO U));clear hp hr q;have HN3:Hid (s.next<_):=Hd (Nat.lt_succ_of_le (Nat.le_of_lt HN2.out));obtain⟨c3_00,c3_01,c3_02⟩:=HP3.out.own.tk (b:=w3.heap.size) (t:=U) (by simp);obtain⟨c3_10,c3_11,c3_12⟩:=HP3.out.own.tk (b:=w1.heap.size) (t:=T) (by simp);)
    | (go_at_call 320;refine(eY HE.out HP1.out _ H1.out).mono ?_;rintro e w2 ⟨rfl,hp⟩;have HP2:=Hd hp;clear hp;have HN2:Hid (s.next<_):=Hd (Nat.lt_succ_of_le HN1.out);have HS2:=HS1;obtain⟨c2_00,c2_01,c2_02⟩:=HP2.out.own.tk (b:=w1.heap.size) (t:=T) (by simp);)
    | (go_at_call 241;refine(zM HE.out HP0.out HT.out).mono ?_;rintro e w1 ⟨rfl,hp⟩;have HP1:=Hd (hp.alloc (tkO T));clear hp;have HN1:=HN0;have HS1:=HS0;obtain⟨c1_00,c1_01,c1_02⟩:=HP1.out.own.tk (b:=w1.heap.size) (t:=T) (by simp);))
   go_ret;exact .ok HS4.out (Nat.le_of_lt HN4.out) ((HP4.out.drop.drop).less (by omega))
 | false=>
   simp only[h1,if_true,if_false,Bool.false_eq_true,ite_true,ite_false]at hS;have HS0:=Hd hS.symm;have H1:=Hd h1;clear hS hT h1;go_enter func315,ntmps315
   go_wp2_with (first
    | (go_at_call 316;refine(QAdd0 HE.out HP3.out 1 T [] _).mono ?_;rintro e w4 ⟨rfl,hp⟩;have HP4:=Hd hp;clear hp;have HN4:=HN3;have HS4:=HS3;)
    | (go_at_call 321;refine(jP HE.out HP2.out).mono ?_;rintro e w3 (⟨ps,hr,rfl,hb⟩|⟨hr,-,he,hv0,hv1,hp⟩);(exact⟨rfl,.er (zk HS2.out hr) hb⟩);have q:=zj HS2.out hr;rw[HT.out]at he hv0 hv1;subst he;obtain⟨v,hv⟩:∃v,valP T.text=v:=⟨_,rfl⟩;rw[hv]at q hv0 hv1;rw[hv];clear hv;(try simp only[Int.neg_mul,Int.one_mul]at q);have HS3:=Hd q;have HP3:=Hd (hp.alloc (tkO T));clear hp hr q;have HN3:Hid (s.next<_):=Hd (Nat.lt_succ_of_le HN2.out);obtain⟨c3_00,c3_01,c3_02⟩:=HP3.out.own.tk (b:=w3.heap.size) (t:=T) (by simp);obtain⟨c3_10,c3_11,c3_12⟩:=HP3.out.own.tk (b:=w1.heap.size) (t:=T) (by simp);)
    | (go_at_call 320;refine(dE HE.out HP1.out _ H1.out).mono ?_;rintro e w2 ⟨rfl,hp⟩;have HP2:=Hd hp;clear hp;have HN2:=HN1;have HS2:=HS1;obtain⟨c2_00,c2_01,c2_02⟩:=HP2.out.own.tk (b:=w1.heap.size) (t:=T) (by simp);)
    | (go_at_call 241;refine(zM HE.out HP0.out HT.out).mono ?_;rintro e w1 ⟨rfl,hp⟩;have HP1:=Hd (hp.alloc (tkO T));clear hp;have HN1:=HN0;have HS1:=HS0;obtain⟨c1_00,c1_01,c1_02⟩:=HP1.out.own.tk (b:=w1.heap.size) (t:=T) (by simp);))
   go_ret;exact .ok HS4.out (Nat.le_of_lt HN4.out) ((HP4.out.drop.drop).less (by omega))
theorem IE{c:PC}(he:OkC c){kindOf:RdP}{s:PS}(hkindOf:∀s',s.next<s'.next→zt c 319 kindOf s'):zt c 319 (mH kindOf c.E) s:=by
 intro F d X h;have HE:=Hd he;have HkindOf:=Hd hkindOf;have HP0:=Hd h;have HN0:Hid (s.next≤s.next):=Hd nlr;obtain⟨S,hS⟩:∃S,mH kindOf c.E s=S:=⟨_,rfl⟩
 try rw[hS]
 unfold mH at hS;obtain⟨T,hT⟩:∃T,zi c.E s=T:=⟨_,rfl⟩
 rw[hT]at hS;have HT:=Hd hT;clear he h hkindOf;have hmo:prog.follows .mixedOrders=true:=by kernel_rfl
 cases h1:isP c.E s wInt with
 | true=>
   simp only[h1,if_true,if_false,Bool.false_eq_true,ite_true,ite_false]at hS;have HS0:=Hd hS.symm;have H1:=Hd h1;clear hS hT h1;go_enter func319,ntmps319
   go_wp2_with (first
    | (go_at_call 316;refine(QAdd0 HE.out HP2.out 30 T [] 0).mono ?_;rintro e w3 ⟨rfl,hp⟩;have HP3:=Hd hp;clear hp;have HN3:=HN2;have HS3:=HS2;)
    | (go_at_call 320;refine(eY HE.out HP1.out _ H1.out).mono ?_;rintro e w2 ⟨rfl,hp⟩;have HP2:=Hd hp;clear hp;have HN2:Hid (s.next<_):=Hd (Nat.lt_succ_of_le HN1.out);have HS2:=HS1;obtain⟨c2_00,c2_01,c2_02⟩:=HP2.out.own.tk (b:=w1.heap.size) (t:=T) (by simp);)
    | (go_at_call 241;refine(zM HE.out HP0.out HT.out).mono ?_;rintro e w1 ⟨rfl,hp⟩;have HP1:=Hd (hp.alloc (tkO T));clear hp;have HN1:=HN0;have HS1:=HS0;obtain⟨c1_00,c1_01,c1_02⟩:=HP1.out.own.tk (b:=w1.heap.size) (t:=T) (by simp);))
   go_ret;exact .ok HS3.out (Nat.le_of_lt HN3.out) ((HP3.out.drop).less (by omega))
 | false=>
   cases h2:isP c.E s OE with
   | true=>
     simp only[h1,h2,if_true,if_false,Bool.false_eq_true,ite_true,ite_false]at hS;have HS0:=Hd hS.symm;have H1:=Hd h1;have H2:=Hd h2;clear hS hT h1 h2;go_enter func319,ntmps319
     go_wp2_with (first
      | (go_at_call 316;refine(QAdd0 HE.out HP3.out 31 T [] 0).mono ?_;rintro e w4 ⟨rfl,hp⟩;have HP4:=Hd hp;clear hp;have HN4:=HN3;have HS4:=HS3;)
      | (go_at_call 320;refine(eY HE.out HP2.out _ H2.out).mono ?_;rintro e w3 ⟨rfl,hp⟩;have HP3:=Hd hp;clear hp;have HN3:Hid (s.next<_):=Hd (Nat.lt_succ_of_le HN2.out);have HS3:=HS2;obtain⟨c3_00,c3_01,c3_02⟩:=HP3.out.own.tk (b:=w1.heap.size) (t:=T) (by simp);)
      | (go_at_call 320;refine(dE HE.out HP1.out _ H1.out).mono ?_;rintro e w2 ⟨rfl,hp⟩;have HP2:=Hd hp;clear hp;have HN2:=HN1;have HS2:=HS1;obtain⟨c2_00,c2_01,c2_02⟩:=HP2.out.own.tk (b:=w1.heap.size) (t:=T) (by simp);)
      | (go_at_call 241;refine(zM HE.out HP0.out HT.out).mono ?_;rintro e w1 ⟨rfl,hp⟩;have HP1:=Hd (hp.alloc (tkO T));clear hp;have HN1:=HN0;have HS1:=HS0;obtain⟨c1_00,c1_01,c1_02⟩:=HP1.out.own.tk (b:=w1.heap.size) (t:=T) (by simp);))
     go_ret;exact .ok HS4.out (Nat.le_of_lt HN4.out) ((HP4.out.drop).less (by omega))
   | false=>
     cases h3:isP c.E s jI with
     | true=>
       simp only[h1,h2,h3,if_true,if_false,Bool.false_eq_true,ite_true,ite_false]at hS;have HS0:=Hd hS.symm;have H1:=Hd h1;have H2:=Hd h2;have H3:=Hd h3;clear hS hT h1 h2 h3;go_enter func319,ntmps319
       go_wp2_with (first
        | (go_at_call 316;refine(kA HE.out HP8.out 33 T [] v [a5] rfl).mono ?_;rintro e w9 ⟨rfl,hp⟩;have HP9:=Hd hp;clear hp;have HN9:=HN8;have HS9:=HS8;)
        | (go_at_call 244;refine(bC HE.out HP7.out _).mono ?_;rintro e w8 (⟨ps,hr,rfl,hb⟩|⟨hr,-,rfl,hp⟩);(exact⟨rfl,.er (zk HS7.out hr) hb⟩);have HS8:=Hd (zj HS7.out hr);have HP8:=Hd hp;clear hp hr;have HN8:Hid (s.next<_):=Hd (Nat.lt_succ_of_le (Nat.le_of_lt HN7.out));obtain⟨c8_00,c8_01,c8_02⟩:=HP8.out.own.tk (b:=w7.heap.size) (t:=U) (by simp);obtain⟨c8_10,c8_11,c8_12⟩:=HP8.out.own.tk (b:=w1.heap.size) (t:=T) (by simp);)
        | (go_at_call 321;refine(jP HE.out HP6.out).mono ?_;rintro e w7 (⟨ps,hr,rfl,hb⟩|⟨hr,-,he,hv0,hv1,hp⟩);(exact⟨rfl,.er (zk HS6.out hr) hb⟩);have q:=zj HS6.out hr;subst he;obtain⟨U,hU⟩:∃y,zi c.E s5.take=y:=⟨_,rfl⟩;rw[hU];rw[hU]at q hv0 hv1;have HU:=Hd hU;clear hU;obtain⟨v,hv⟩:∃v,valP U.text=v:=⟨_,rfl⟩;rw[hv]at q hv0 hv1;rw[hv];clear hv;(try simp only[Int.neg_mul,Int.one_mul]at q);have HS7:=Hd q;have HP7:=Hd (hp.alloc (tkO U));clear hp hr q;have HN7:Hid (s.next<_):=Hd (Nat.lt_succ_of_le (Nat.le_of_lt HN6.out));obtain⟨c7_00,c7_01,c7_02⟩:=HP7.out.own.tk (b:=w7.heap.size) (t:=U) (by simp);obtain⟨c7_10,c7_11,c7_12⟩:=HP7.out.own.tk (b:=w1.heap.size) (t:=T) (by simp);)
        | (go_at_call 244;refine(bC HE.out HP5.out _).mono ?_;rintro e w6 (⟨ps,hr,rfl,hb⟩|⟨hr,-,rfl,hp⟩);(exact⟨rfl,.er (zk HS5.out hr) hb⟩);have HS6:=Hd (zj HS5.out hr);have HP6:=Hd hp;clear hp hr;have HN6:Hid (s.next<_):=Hd (Nat.lt_succ_of_le (Nat.le_of_lt HN5.out));obtain⟨c6_00,c6_01,c6_02⟩:=HP6.out.own.tk (b:=w1.heap.size) (t:=T) (by simp);)
        | (go_at_call 319;refine(HkindOf.out _ HN4.out _ _ _ HP4.out).mono ?_;rintro e w5 (⟨ps,hr,rfl,hb⟩|⟨a5,s5,hr,rfl,hn,hp⟩);(exact⟨rfl,.er (zk HS4.out hr) hb⟩);have HS5:=Hd (zj HS4.out hr);have HP5:=Hd hp;clear hp hr;have HN5:=Hd (Nat.lt_of_lt_of_le HN4.out hn);clear hn;obtain⟨c5_00,c5_01,c5_02⟩:=HP5.out.own.tk (b:=w1.heap.size) (t:=T) (by simp);)
        | (go_at_call 320;refine(eY HE.out HP3.out _ H3.out).mono ?_;rintro e w4 ⟨rfl,hp⟩;have HP4:=Hd hp;clear hp;have HN4:Hid (s.next<_):=Hd (Nat.lt_succ_of_le HN3.out);have HS4:=HS3;obtain⟨c4_00,c4_01,c4_02⟩:=HP4.out.own.tk (b:=w1.heap.size) (t:=T) (by simp);)
        | (go_at_call 320;refine(dE HE.out HP2.out _ H2.out).mono ?_;rintro e w3 ⟨rfl,hp⟩;have HP3:=Hd hp;clear hp;have HN3:=HN2;have HS3:=HS2;obtain⟨c3_00,c3_01,c3_02⟩:=HP3.out.own.tk (b:=w1.heap.size) (t:=T) (by simp);)
        | (go_at_call 320;refine(dE HE.out HP1.out _ H1.out).mono ?_;rintro e w2 ⟨rfl,hp⟩;have HP2:=Hd hp;clear hp;have HN2:=HN1;have HS2:=HS1;obtain⟨c2_00,c2_01,c2_02⟩:=HP2.out.own.tk (b:=w1.heap.size) (t:=T) (by simp);)
        | (go_at_call 241;refine(zM HE.out HP0.out HT.out).mono ?_;rintro e w1 ⟨rfl,hp⟩;have HP1:=Hd (hp.alloc (tkO T));clear hp;have HN1:=HN0;have HS1:=HS0;obtain⟨c1_00,c1_01,c1_02⟩:=HP1.out.own.tk (b:=w1.heap.size) (t:=T) (by simp);))
       go_ret;exact .ok HS9.out (Nat.le_of_lt HN9.out) ((HP9.out.drop.drop).less (by omega))
     | false=>
       simp only[h1,h2,h3,if_true,if_false,Bool.false_eq_true,ite_true,ite_false]at hS;have HS0:=Hd hS.symm;have H1:=Hd h1;have H2:=Hd h2;have H3:=Hd h3;clear hS hT h1 h2 h3;go_enter func319,ntmps319
       go_wp2_with (first
        | (go_at_call 320;refine(dE HE.out HP3.out _ H3.out).mono ?_;rintro e w4 ⟨rfl,hp⟩;have HP4:=Hd hp;clear hp;have HN4:=HN3;have HS4:=HS3;obtain⟨c4_00,c4_01,c4_02⟩:=HP4.out.own.tk (b:=w1.heap.size) (t:=T) (by simp);)
        | (go_at_call 320;refine(dE HE.out HP2.out _ H2.out).mono ?_;rintro e w3 ⟨rfl,hp⟩;have HP3:=Hd hp;clear hp;have HN3:=HN2;have HS3:=HS2;obtain⟨c3_00,c3_01,c3_02⟩:=HP3.out.own.tk (b:=w1.heap.size) (t:=T) (by simp);)
        | (go_at_call 320;refine(dE HE.out HP1.out _ H1.out).mono ?_;rintro e w2 ⟨rfl,hp⟩;have HP2:=Hd hp;clear hp;have HN2:=HN1;have HS2:=HS1;obtain⟨c2_00,c2_01,c2_02⟩:=HP2.out.own.tk (b:=w1.heap.size) (t:=T) (by simp);)
        | (go_at_call 241;refine(zM HE.out HP0.out HT.out).mono ?_;rintro e w1 ⟨rfl,hp⟩;have HP1:=Hd (hp.alloc (tkO T));clear hp;have HN1:=HN0;have HS1:=HS0;obtain⟨c1_00,c1_01,c1_02⟩:=HP1.out.own.tk (b:=w1.heap.size) (t:=T) (by simp);))
       refine N.region_C [false,false,false,true,true,true,true] [?vC5_0,?vC5_1,?vC5_2,undef,undef,undef,undef] hmo (by kernel_rfl) (by kernel_rfl) (by kernel_rfl) (by kernel_rfl) rfl rfl (fun ch w=>RdI c F d s.next S (.panicked ch) w) (fun ch b w hd h=>⟨hd,h⟩) (fun Wz=>Wz.heap[w1.heap.size]?=some (tkO T)) (HP4.out.drew.own (w1.heap.size,tkO T) (by simp)) ?wC5_ ?_
       case wC5_=>
        iterate 3 (refine N.WalkC.still (N.StillP.known rfl ?_) ?_;(intro W hJ;have j00:=za (i:=0) hJ rfl;have j01:=za (i:=1) hJ rfl;have j02:=za (i:=2) hJ rfl;go_simp;rfl);simp only[N.pz])
        refine N.WalkC.chain fun u3=>?_;simp only[N.pz];refine N.WalkC.chain fun u4=>?_;simp only[N.pz];refine N.WalkC.chain fun u5=>?_;simp only[N.pz];refine N.WalkC.chain fun u6=>?_;simp only[N.pz];exact .nil
       iterate 3 (refine N.TailC.still ?_;simp only[N.pz])
       refine N.TailC.call (f:=314) (args:=#[c.ptr]) rfl ?a3 ?_;case a3=>go_simp;try rfl
       refine(iV HE.out HP4.out.drew).mono ?_;rintro e w5 (⟨ps,hr,rfl,hb⟩|⟨hr,-,he,hp⟩)
       ·exact .inr ⟨_,rfl,.er (zk HS4.out hr) hb⟩
       rw[HT.out]at he;subst he;have HS5:=Hd (zj HS4.out hr);have HP5:=Hd hp;have HN5:Hid (s.next<_):=Hd (Nat.lt_succ_of_le HN4.out);clear hp hr;refine .inl ⟨_,rfl,(fun _=>HP5.out.own (w1.heap.size,tkO T) (by simp)),?_⟩;simp only[N.pz];refine N.TailC.run (v:=strV T.text) (w':=w5) rfl ?a4 (fun _=>HP5.out.own (w1.heap.size,tkO T) (by simp)) ?b4;case a4=>go_simp;try rfl
       simp only[N.pz];refine N.TailC.call (f:=316) (args:=#[c.ptr,.int .u8 32,tkA T,strV T.text,intV 0,.slice none 0 0]) rfl ?a5 ?_;case a5=>go_simp;try rfl
       refine(QAdd0 HE.out HP5.out 32 T T.text 0).mono ?_;rintro e w6⟨rfl,hp⟩;have HP6:=Hd hp;have HS6:=HS5;have HN6:=HN5;clear hp;refine .inl ⟨_,rfl,(fun _=>HP6.out.own (w1.heap.size,tkO T) (by simp)),?_⟩;simp only[N.pz];refine N.TailC.run (v:=intV s.take.nodes.length) (w':=w6) rfl ?a6 (fun h=>absurd rfl h) ?b6;case a6=>go_simp;try rfl
       simp only[N.pz];refine N.TailC.nil ?_;go_wp2;go_ret;exact .ok HS6.out (Nat.le_of_lt HN6.out) ((HP6.out.drop).less (by omega))
theorem ID{c:PC}(he:OkC c){s:PS}(nm:Tk):∀(F:List (Nat×Obj)) (d:Nat) (X:World),PQ c s F d X→Calls prog 287 #[c.ptr,tkA nm] X (RdI c F d s.next (kM c.E nm s)):=by
 intro F d X h;have HE:=Hd he;have HP0:=Hd h;have HN0:Hid (s.next≤s.next):=Hd nlr;obtain⟨S,hS⟩:∃S,kM c.E nm s=S:=⟨_,rfl⟩
 try rw[hS]
 unfold kM at hS;obtain⟨T,hT⟩:∃T,zi c.E s=T:=⟨_,rfl⟩
 rw[hT]at hS;have HT:=Hd hT;clear he h;have hmo:prog.follows .mixedOrders=true:=by kernel_rfl
 have HS0:=Hd hS.symm;clear hS hT
 replace HP0:=Hd (HP0.out.alloc (tkO nm))
 obtain⟨c0_00,c0_01,c0_02⟩:=HP0.out.own.tk (b:=X.heap.size) (t:=nm) (by simp);go_enter func287,ntmps287
 go_wp2_with (first
  | (go_at_call 244;refine(bC HE.out HP3.out _).mono ?_;rintro e w4 (⟨ps,hr,rfl,hb⟩|⟨hr,-,rfl,hp⟩);(exact⟨rfl,.er (zk HS3.out hr) hb⟩);have HS4:=Hd (zj HS3.out hr);have HP4:=Hd hp;clear hp hr;have HN4:Hid (s.next<_):=Hd (Nat.lt_succ_of_le (Nat.le_of_lt HN3.out));obtain⟨c4_00,c4_01,c4_02⟩:=HP4.out.own.tk (b:=w1.heap.size) (t:=T) (by simp);obtain⟨c4_10,c4_11,c4_12⟩:=HP4.out.own.tk (b:=X.heap.size) (t:=nm) (by simp);)
  | (go_at_call 315;refine(tQ HE.out _ _ _ HP2.out).mono ?_;rintro e w3 (⟨ps,hr,rfl,hb⟩|⟨a3,s3,hr,rfl,hn,hp⟩);(exact⟨rfl,.er (zk HS2.out hr) hb⟩);have HS3:=Hd (zj HS2.out hr);have HP3:=Hd hp;clear hp hr;have HN3:=Hd (Nat.lt_of_lt_of_le HN2.out hn);clear hn;obtain⟨c3_00,c3_01,c3_02⟩:=HP3.out.own.tk (b:=w1.heap.size) (t:=T) (by simp);obtain⟨c3_10,c3_11,c3_12⟩:=HP3.out.own.tk (b:=X.heap.size) (t:=nm) (by simp);)
  | (go_at_call 244;refine(bC HE.out HP1.out _).mono ?_;rintro e w2 (⟨ps,hr,rfl,hb⟩|⟨hr,-,rfl,hp⟩);(exact⟨rfl,.er (zk HS1.out hr) hb⟩);have HS2:=Hd (zj HS1.out hr);have HP2:=Hd hp;clear hp hr;have HN2:Hid (s.next<_):=Hd (Nat.lt_succ_of_le (Nat.le_of_lt HN1.out));obtain⟨c2_00,c2_01,c2_02⟩:=HP2.out.own.tk (b:=w1.heap.size) (t:=T) (by simp);obtain⟨c2_10,c2_11,c2_12⟩:=HP2.out.own.tk (b:=X.heap.size) (t:=nm) (by simp);)
  | (go_at_call 314;refine(iV HE.out HP0.out).mono ?_;rintro e w1 (⟨ps,hr,rfl,hb⟩|⟨hr,-,he,hp⟩);(exact⟨rfl,.er (zk HS0.out hr) hb⟩);have q:=zj HS0.out hr;rw[HT.out]at he;subst he;have HS1:=Hd q;have HP1:=Hd (hp.alloc (tkO T));clear hp hr q;have HN1:Hid (s.next<_):=Hd (Nat.lt_succ_of_le HN0.out);obtain⟨c1_00,c1_01,c1_02⟩:=HP1.out.own.tk (b:=w1.heap.size) (t:=T) (by simp);obtain⟨c1_10,c1_11,c1_12⟩:=HP1.out.own.tk (b:=X.heap.size) (t:=nm) (by simp);))
 refine N.region_C [false,false,false,false,false,false,true,true,true,true] [?vC6_0,?vC6_1,?vC6_2,?vC6_3,?vC6_4,?vC6_5,undef,undef,undef,undef] hmo (by kernel_rfl) (by kernel_rfl) (by kernel_rfl) (by kernel_rfl) rfl rfl (fun ch w=>RdI c F d s.next S (.panicked ch) w) (fun ch b w hd h=>⟨hd,h⟩) (fun Wz=>Wz.heap[w1.heap.size]?=some (tkO T)∧Wz.heap[X.heap.size]?=some (tkO nm)) ⟨HP4.out.drew.own (w1.heap.size,tkO T) (by simp),HP4.out.drew.own (X.heap.size,tkO nm) (by simp)⟩ ?wC6_ ?_
 case wC6_=>
  iterate 6 (refine N.WalkC.still (N.StillP.known rfl ?_) ?_;(intro W hJ;obtain⟨hj0,hj1⟩:=hJ;have j00:=za (i:=0) hj0 rfl;have j01:=za (i:=1) hj0 rfl;have j02:=za (i:=2) hj0 rfl;have j10:=za (i:=0) hj1 rfl;have j11:=za (i:=1) hj1 rfl;have j12:=za (i:=2) hj1 rfl;go_simp;rfl);simp only[N.pz])
  refine N.WalkC.chain fun u6=>?_;simp only[N.pz];refine N.WalkC.chain fun u7=>?_;simp only[N.pz];refine N.WalkC.chain fun u8=>?_;simp only[N.pz];refine N.WalkC.chain fun u9=>?_;simp only[N.pz];exact .nil
 iterate 6 (refine N.TailC.still ?_;simp only[N.pz])
 refine N.TailC.call (f:=315) (args:=#[c.ptr]) rfl ?a6 ?_;case a6=>go_simp;try rfl
 refine(tQ HE.out _ _ _ HP4.out.drew).mono ?_;rintro e w5 (⟨ps,hr,rfl,hb⟩|⟨a5,s5,hr,rfl,hn,hp⟩)
 ·exact .inr ⟨_,rfl,.er (zk HS4.out hr) hb⟩
 have HS5:=Hd (zj HS4.out hr);have HP5:=Hd hp;have HN5:=Hd (Nat.lt_of_lt_of_le HN4.out hn);clear hp hn hr;refine .inl ⟨_,rfl,(fun _=>⟨HP5.out.own (w1.heap.size,tkO T) (by simp),HP5.out.own (X.heap.size,tkO nm) (by simp)⟩),?_⟩;simp only[N.pz];refine N.TailC.run (v:=.slice (some ⟨w5.heap.size,0,none⟩) 2 2) (w':=w5.alloc (.cells #[intV a3,intV a5] 3)) rfl ?a7 (fun _=>⟨(HP5.out.alloc _).drop.own (w1.heap.size,tkO T) (by simp),(HP5.out.alloc _).drop.own (X.heap.size,tkO nm) (by simp)⟩) ?b7;case a7=>go_simp;try rfl
 simp only[N.pz];refine N.TailC.call (f:=316) (args:=#[c.ptr,.int .u8 40,tkA nm,strV T.text,intV 0,.slice (some ⟨w5.heap.size,0,none⟩) 2 2]) rfl ?a8 ?_;case a8=>go_simp;try rfl
 refine(kA HE.out HP5.out 40 nm T.text 0 [a3,a5] rfl).mono ?_;rintro e w6⟨rfl,hp⟩;have HP6:=Hd hp;have HS6:=HS5;have HN6:=HN5;clear hp;refine .inl ⟨_,rfl,(fun _=>⟨HP6.out.own (w1.heap.size,tkO T) (by simp),HP6.out.own (X.heap.size,tkO nm) (by simp)⟩),?_⟩;simp only[N.pz];refine N.TailC.run (v:=intV s5.nodes.length) (w':=w6) rfl ?a9 (fun h=>absurd rfl h) ?b9;case a9=>go_simp;try rfl
 simp only[N.pz];refine N.TailC.nil ?_;go_wp2;go_ret;exact .ok HS6.out (Nat.le_of_lt HN6.out) ((HP6.out.drop.drop).less (by omega))
theorem OK{c:PC}(he:OkC c){expr:RdP}{s:PS}(nm:Tk)(hexpr:∀s',s.next<s'.next→zt c 322 expr s'):∀(F:List (Nat×Obj)) (d:Nat) (X:World),PQ c s F d X→Calls prog 290 #[c.ptr,tkA nm] X (RdI c F d s.next (letP expr c.E nm s)):=by
 intro F d X h;have HE:=Hd he;have Hexpr:=Hd hexpr;have HP0:=Hd h;have HN0:Hid (s.next≤s.next):=Hd nlr;obtain⟨S,hS⟩:∃S,letP expr c.E nm s=S:=⟨_,rfl⟩
 try rw[hS]
 unfold letP at hS;obtain⟨T,hT⟩:∃T,zi c.E s=T:=⟨_,rfl⟩
 rw[hT]at hS;have HT:=Hd hT;clear he h hexpr;have hmo:prog.follows .mixedOrders=true:=by kernel_rfl
 have HS0:=Hd hS.symm;clear hS hT
 replace HP0:=Hd (HP0.out.alloc (tkO nm))
 obtain⟨c0_00,c0_01,c0_02⟩:=HP0.out.own.tk (b:=X.heap.size) (t:=nm) (by simp);go_enter func290,ntmps290
 go_wp2_with (first
  | (go_at_call 244;refine(bC HE.out HP1.out _).mono ?_;rintro e w2 (⟨ps,hr,rfl,hb⟩|⟨hr,-,rfl,hp⟩);(exact⟨rfl,.er (zk HS1.out hr) hb⟩);have HS2:=Hd (zj HS1.out hr);have HP2:=Hd hp;clear hp hr;have HN2:Hid (s.next<_):=Hd (Nat.lt_succ_of_le (Nat.le_of_lt HN1.out));obtain⟨c2_00,c2_01,c2_02⟩:=HP2.out.own.tk (b:=w1.heap.size) (t:=T) (by simp);obtain⟨c2_10,c2_11,c2_12⟩:=HP2.out.own.tk (b:=X.heap.size) (t:=nm) (by simp);)
  | (go_at_call 314;refine(iV HE.out HP0.out).mono ?_;rintro e w1 (⟨ps,hr,rfl,hb⟩|⟨hr,-,he,hp⟩);(exact⟨rfl,.er (zk HS0.out hr) hb⟩);have q:=zj HS0.out hr;rw[HT.out]at he;subst he;have HS1:=Hd q;have HP1:=Hd (hp.alloc (tkO T));clear hp hr q;have HN1:Hid (s.next<_):=Hd (Nat.lt_succ_of_le HN0.out);obtain⟨c1_00,c1_01,c1_02⟩:=HP1.out.own.tk (b:=w1.heap.size) (t:=T) (by simp);obtain⟨c1_10,c1_11,c1_12⟩:=HP1.out.own.tk (b:=X.heap.size) (t:=nm) (by simp);))
 refine N.region_C [false,false,false,false,false,true,true,true,true] [?vC7_0,?vC7_1,?vC7_2,?vC7_3,?vC7_4,undef,undef,undef,undef] hmo (by kernel_rfl) (by kernel_rfl) (by kernel_rfl) (by kernel_rfl) rfl rfl (fun ch w=>RdI c F d s.next S (.panicked ch) w) (fun ch b w hd h=>⟨hd,h⟩) (fun Wz=>Wz.heap[w1.heap.size]?=some (tkO T)∧Wz.heap[X.heap.size]?=some (tkO nm)) ⟨HP2.out.drew.own (w1.heap.size,tkO T) (by simp),HP2.out.drew.own (X.heap.size,tkO nm) (by simp)⟩ ?wC7_ ?_
 case wC7_=>
  iterate 5 (refine N.WalkC.still (N.StillP.known rfl ?_) ?_;(intro W hJ;obtain⟨hj0,hj1⟩:=hJ;have j00:=za (i:=0) hj0 rfl;have j01:=za (i:=1) hj0 rfl;have j02:=za (i:=2) hj0 rfl;have j10:=za (i:=0) hj1 rfl;have j11:=za (i:=1) hj1 rfl;have j12:=za (i:=2) hj1 rfl;go_simp;rfl);simp only[N.pz])
  refine N.WalkC.chain fun u5=>?_;simp only[N.pz];refine N.WalkC.chain fun u6=>?_;simp only[N.pz];refine N.WalkC.chain fun u7=>?_;simp only[N.pz];refine N.WalkC.chain fun u8=>?_;simp only[N.pz];exact .nil
 iterate 5 (refine N.TailC.still ?_;simp only[N.pz])
 refine N.TailC.call (f:=322) (args:=#[c.ptr]) rfl ?a5 ?_;case a5=>go_simp;try rfl
 refine(Hexpr.out _ HN2.out _ _ _ HP2.out.drew).mono ?_;rintro e w3 (⟨ps,hr,rfl,hb⟩|⟨a3,s3,hr,rfl,hn,hp⟩)
 ·exact .inr ⟨_,rfl,.er (zk HS2.out hr) hb⟩
 have HS3:=Hd (zj HS2.out hr);have HP3:=Hd hp;have HN3:=Hd (Nat.lt_of_lt_of_le HN2.out hn);clear hp hn hr;refine .inl ⟨_,rfl,(fun _=>⟨HP3.out.own (w1.heap.size,tkO T) (by simp),HP3.out.own (X.heap.size,tkO nm) (by simp)⟩),?_⟩;simp only[N.pz];refine N.TailC.run (v:=.slice (some ⟨w3.heap.size,0,none⟩) 1 1) (w':=w3.alloc (.cells #[intV a3] 3)) rfl ?a6 (fun _=>⟨(HP3.out.alloc _).drop.own (w1.heap.size,tkO T) (by simp),(HP3.out.alloc _).drop.own (X.heap.size,tkO nm) (by simp)⟩) ?b6;case a6=>go_simp;try rfl
 simp only[N.pz];refine N.TailC.call (f:=316) (args:=#[c.ptr,.int .u8 43,tkA nm,strV T.text,intV 0,.slice (some ⟨w3.heap.size,0,none⟩) 1 1]) rfl ?a7 ?_;case a7=>go_simp;try rfl
 refine(kA HE.out HP3.out 43 nm T.text 0 [a3] rfl).mono ?_;rintro e w4⟨rfl,hp⟩;have HP4:=Hd hp;have HS4:=HS3;have HN4:=HN3;clear hp;refine .inl ⟨_,rfl,(fun _=>⟨HP4.out.own (w1.heap.size,tkO T) (by simp),HP4.out.own (X.heap.size,tkO nm) (by simp)⟩),?_⟩;simp only[N.pz];refine N.TailC.run (v:=intV s3.nodes.length) (w':=w4) rfl ?a8 (fun h=>absurd rfl h) ?b8;case a8=>go_simp;try rfl
 simp only[N.pz];refine N.TailC.nil ?_;go_wp2;go_ret;exact .ok HS4.out (Nat.le_of_lt HN4.out) ((HP4.out.drop.drop).less (by omega))
theorem DG{c:PC}(he:OkC c){expr:RdP}{s:PS}(nm:Tk)(hexpr:∀s',s.next<s'.next→zt c 322 expr s'):∀(F:List (Nat×Obj)) (d:Nat) (X:World),PQ c s F d X→Calls prog 291 #[c.ptr,tkA nm] X (RdI c F d s.next (lT expr c.E nm s)):=by
 intro F d X h;have HE:=Hd he;have Hexpr:=Hd hexpr;have HP0:=Hd h;have HN0:Hid (s.next≤s.next):=Hd nlr;obtain⟨S,hS⟩:∃S,lT expr c.E nm s=S:=⟨_,rfl⟩
 try rw[hS]
 unfold lT at hS;obtain⟨T,hT⟩:∃T,zi c.E s=T:=⟨_,rfl⟩
 rw[hT]at hS;have HT:=Hd hT;clear he h hexpr;have hmo:prog.follows .mixedOrders=true:=by kernel_rfl
 have HS0:=Hd hS.symm;clear hS hT
 replace HP0:=Hd (HP0.out.alloc (tkO nm))
 obtain⟨c0_00,c0_01,c0_02⟩:=HP0.out.own.tk (b:=X.heap.size) (t:=nm) (by simp);go_enter func291,ntmps291
 go_wp2_with (first
  | (go_at_call 244;refine(bC HE.out HP1.out _).mono ?_;rintro e w2 (⟨ps,hr,rfl,hb⟩|⟨hr,-,rfl,hp⟩);(exact⟨rfl,.er (zk HS1.out hr) hb⟩);have HS2:=Hd (zj HS1.out hr);have HP2:=Hd hp;clear hp hr;have HN2:Hid (s.next<_):=Hd (Nat.lt_succ_of_le (Nat.le_of_lt HN1.out));obtain⟨c2_00,c2_01,c2_02⟩:=HP2.out.own.tk (b:=w1.heap.size) (t:=T) (by simp);obtain⟨c2_10,c2_11,c2_12⟩:=HP2.out.own.tk (b:=X.heap.size) (t:=nm) (by simp);)
  | (go_at_call 314;refine(iV HE.out HP0.out).mono ?_;rintro e w1 (⟨ps,hr,rfl,hb⟩|⟨hr,-,he,hp⟩);(exact⟨rfl,.er (zk HS0.out hr) hb⟩);have q:=zj HS0.out hr;rw[HT.out]at he;subst he;have HS1:=Hd q;have HP1:=Hd (hp.alloc (tkO T));clear hp hr q;have HN1:Hid (s.next<_):=Hd (Nat.lt_succ_of_le HN0.out);obtain⟨c1_00,c1_01,c1_02⟩:=HP1.out.own.tk (b:=w1.heap.size) (t:=T) (by simp);obtain⟨c1_10,c1_11,c1_12⟩:=HP1.out.own.tk (b:=X.heap.size) (t:=nm) (by simp);))
 refine N.region_C [false,false,false,false,false,true,true,true,true] [?vC8_0,?vC8_1,?vC8_2,?vC8_3,?vC8_4,undef,undef,undef,undef] hmo (by kernel_rfl) (by kernel_rfl) (by kernel_rfl) (by kernel_rfl) rfl rfl (fun ch w=>RdI c F d s.next S (.panicked ch) w) (fun ch b w hd h=>⟨hd,h⟩) (fun Wz=>Wz.heap[w1.heap.size]?=some (tkO T)∧Wz.heap[X.heap.size]?=some (tkO nm)) ⟨HP2.out.drew.own (w1.heap.size,tkO T) (by simp),HP2.out.drew.own (X.heap.size,tkO nm) (by simp)⟩ ?wC8_ ?_
 case wC8_=>
  iterate 5 (refine N.WalkC.still (N.StillP.known rfl ?_) ?_;(intro W hJ;obtain⟨hj0,hj1⟩:=hJ;have j00:=za (i:=0) hj0 rfl;have j01:=za (i:=1) hj0 rfl;have j02:=za (i:=2) hj0 rfl;have j10:=za (i:=0) hj1 rfl;have j11:=za (i:=1) hj1 rfl;have j12:=za (i:=2) hj1 rfl;go_simp;rfl);simp only[N.pz])
  refine N.WalkC.chain fun u5=>?_;simp only[N.pz];refine N.WalkC.chain fun u6=>?_;simp only[N.pz];refine N.WalkC.chain fun u7=>?_;simp only[N.pz];refine N.WalkC.chain fun u8=>?_;simp only[N.pz];exact .nil
 iterate 5 (refine N.TailC.still ?_;simp only[N.pz])
 refine N.TailC.call (f:=322) (args:=#[c.ptr]) rfl ?a5 ?_;case a5=>go_simp;try rfl
 refine(Hexpr.out _ HN2.out _ _ _ HP2.out.drew).mono ?_;rintro e w3 (⟨ps,hr,rfl,hb⟩|⟨a3,s3,hr,rfl,hn,hp⟩)
 ·exact .inr ⟨_,rfl,.er (zk HS2.out hr) hb⟩
 have HS3:=Hd (zj HS2.out hr);have HP3:=Hd hp;have HN3:=Hd (Nat.lt_of_lt_of_le HN2.out hn);clear hp hn hr;refine .inl ⟨_,rfl,(fun _=>⟨HP3.out.own (w1.heap.size,tkO T) (by simp),HP3.out.own (X.heap.size,tkO nm) (by simp)⟩),?_⟩;simp only[N.pz];refine N.TailC.run (v:=.slice (some ⟨w3.heap.size,0,none⟩) 1 1) (w':=w3.alloc (.cells #[intV a3] 3)) rfl ?a6 (fun _=>⟨(HP3.out.alloc _).drop.own (w1.heap.size,tkO T) (by simp),(HP3.out.alloc _).drop.own (X.heap.size,tkO nm) (by simp)⟩) ?b6;case a6=>go_simp;try rfl
 simp only[N.pz];refine N.TailC.call (f:=316) (args:=#[c.ptr,.int .u8 44,tkA nm,strV T.text,intV 0,.slice (some ⟨w3.heap.size,0,none⟩) 1 1]) rfl ?a7 ?_;case a7=>go_simp;try rfl
 refine(kA HE.out HP3.out 44 nm T.text 0 [a3] rfl).mono ?_;rintro e w4⟨rfl,hp⟩;have HP4:=Hd hp;have HS4:=HS3;have HN4:=HN3;clear hp;refine .inl ⟨_,rfl,(fun _=>⟨HP4.out.own (w1.heap.size,tkO T) (by simp),HP4.out.own (X.heap.size,tkO nm) (by simp)⟩),?_⟩;simp only[N.pz];refine N.TailC.run (v:=intV s3.nodes.length) (w':=w4) rfl ?a8 (fun h=>absurd rfl h) ?b8;case a8=>go_simp;try rfl
 simp only[N.pz];refine N.TailC.nil ?_;go_wp2;go_ret;exact .ok HS4.out (Nat.le_of_lt HN4.out) ((HP4.out.drop.drop).less (by omega))
theorem DJ{c:PC}(he:OkC c){s:PS}(nm:Tk):∀(F:List (Nat×Obj)) (d:Nat) (X:World),PQ c s F d X→Calls prog 292 #[c.ptr,tkA nm] X (RdI c F d s.next (iI c.E nm s)):=by
 intro F d X h;have HE:=Hd he;have HP0:=Hd h;have HN0:Hid (s.next≤s.next):=Hd nlr;obtain⟨S,hS⟩:∃S,iI c.E nm s=S:=⟨_,rfl⟩
 try rw[hS]
 unfold iI at hS;obtain⟨T,hT⟩:∃T,zi c.E s=T:=⟨_,rfl⟩
 rw[hT]at hS;have HT:=Hd hT;clear he h;have hmo:prog.follows .mixedOrders=true:=by kernel_rfl
 have HS0:=Hd hS.symm;clear hS hT
 replace HP0:=Hd (HP0.out.alloc (tkO nm))
 obtain⟨c0_00,c0_01,c0_02⟩:=HP0.out.own.tk (b:=X.heap.size) (t:=nm) (by simp);go_enter func292,ntmps292;go_wp2;refine N.region_C [false,false,false,true,true,true,true] [?vC9_0,?vC9_1,?vC9_2,undef,undef,undef,undef] hmo (by kernel_rfl) (by kernel_rfl) (by kernel_rfl) (by kernel_rfl) rfl rfl (fun ch w=>RdI c F d s.next S (.panicked ch) w) (fun ch b w hd h=>⟨hd,h⟩) (fun Wz=>Wz.heap[X.heap.size]?=some (tkO nm)) (HP0.out.drew.own (X.heap.size,tkO nm) (by simp)) ?wC9_ ?_
 case wC9_=>
  iterate 3 (refine N.WalkC.still (N.StillP.known rfl ?_) ?_;(intro W hJ;have j00:=za (i:=0) hJ rfl;have j01:=za (i:=1) hJ rfl;have j02:=za (i:=2) hJ rfl;go_simp;rfl);simp only[N.pz])
  refine N.WalkC.chain fun u3=>?_;simp only[N.pz];refine N.WalkC.chain fun u4=>?_;simp only[N.pz];refine N.WalkC.chain fun u5=>?_;simp only[N.pz];refine N.WalkC.chain fun u6=>?_;simp only[N.pz];exact .nil
 iterate 3 (refine N.TailC.still ?_;simp only[N.pz])
 refine N.TailC.call (f:=314) (args:=#[c.ptr]) rfl ?a3 ?_;case a3=>go_simp;try rfl
 refine(iV HE.out HP0.out.drew).mono ?_;rintro e w1 (⟨ps,hr,rfl,hb⟩|⟨hr,-,he,hp⟩)
 ·exact .inr ⟨_,rfl,.er (zk HS0.out hr) hb⟩
 rw[HT.out]at he;subst he;have HS1:=Hd (zj HS0.out hr);have HP1:=Hd hp;have HN1:Hid (s.next<_):=Hd (Nat.lt_succ_of_le HN0.out);clear hp hr;refine .inl ⟨_,rfl,(fun _=>HP1.out.own (X.heap.size,tkO nm) (by simp)),?_⟩;simp only[N.pz];refine N.TailC.run (v:=strV T.text) (w':=w1) rfl ?a4 (fun _=>HP1.out.own (X.heap.size,tkO nm) (by simp)) ?b4;case a4=>go_simp;try rfl
 simp only[N.pz];refine N.TailC.call (f:=316) (args:=#[c.ptr,.int .u8 45,tkA nm,strV T.text,intV 0,.slice none 0 0]) rfl ?a5 ?_;case a5=>go_simp;try rfl
 refine(QAdd0 HE.out HP1.out 45 nm T.text 0).mono ?_;rintro e w2⟨rfl,hp⟩;have HP2:=Hd hp;have HS2:=HS1;have HN2:=HN1;clear hp;refine .inl ⟨_,rfl,(fun _=>HP2.out.own (X.heap.size,tkO nm) (by simp)),?_⟩;simp only[N.pz];refine N.TailC.run (v:=intV s.take.nodes.length) (w':=w2) rfl ?a6 (fun h=>absurd rfl h) ?b6;case a6=>go_simp;try rfl
 simp only[N.pz];refine N.TailC.nil ?_;go_wp2;go_ret;exact .ok HS2.out (Nat.le_of_lt HN2.out) ((HP2.out.drop).less (by omega))
theorem NG{c:PC}(he:OkC c){expr or:RdP}{s:PS}(hexpr:∀s',s.next<s'.next→zt c 322 expr s')(hor:zt c 329 or s):zt c 322 (BH expr or c.E) s:=by
 intro F d X h;have HE:=Hd he;have Hexpr:=Hd hexpr;have Hor:=Hd hor;have HP0:=Hd h;have HN0:Hid (s.next≤s.next):=Hd nlr;obtain⟨S,hS⟩:∃S,BH expr or c.E s=S:=⟨_,rfl⟩
 try rw[hS]
 unfold BH at hS;obtain⟨T,hT⟩:∃T,zi c.E s=T:=⟨_,rfl⟩
 rw[hT]at hS;have HT:=Hd hT;clear he h hexpr hor;have hmo:prog.follows .mixedOrders=true:=by kernel_rfl
 cases h1:isP c.E s wIf with
 | true=>
   simp only[h1,if_true,if_false,Bool.false_eq_true,ite_true,ite_false]at hS;have HS0:=Hd hS.symm;have H1:=Hd h1;clear hS hT h1;go_enter func322,ntmps322
   go_wp2_with (first
    | (go_at_call 244;refine(bC HE.out HP5.out _).mono ?_;rintro e w6 (⟨ps,hr,rfl,hb⟩|⟨hr,-,rfl,hp⟩);(exact⟨rfl,.er (zk HS5.out hr) hb⟩);have HS6:=Hd (zj HS5.out hr);have HP6:=Hd hp;clear hp hr;have HN6:Hid (s.next<_):=Hd (Nat.lt_succ_of_le (Nat.le_of_lt HN5.out));obtain⟨c6_00,c6_01,c6_02⟩:=HP6.out.own.tk (b:=w1.heap.size) (t:=T) (by simp);)
    | (go_at_call 322;refine(Hexpr.out _ HN4.out _ _ _ HP4.out).mono ?_;rintro e w5 (⟨ps,hr,rfl,hb⟩|⟨a5,s5,hr,rfl,hn,hp⟩);(exact⟨rfl,.er (zk HS4.out hr) hb⟩);have HS5:=Hd (zj HS4.out hr);have HP5:=Hd hp;clear hp hr;have HN5:=Hd (Nat.lt_of_lt_of_le HN4.out hn);clear hn;obtain⟨c5_00,c5_01,c5_02⟩:=HP5.out.own.tk (b:=w1.heap.size) (t:=T) (by simp);)
    | (go_at_call 244;refine(bC HE.out HP3.out _).mono ?_;rintro e w4 (⟨ps,hr,rfl,hb⟩|⟨hr,-,rfl,hp⟩);(exact⟨rfl,.er (zk HS3.out hr) hb⟩);have HS4:=Hd (zj HS3.out hr);have HP4:=Hd hp;clear hp hr;have HN4:Hid (s.next<_):=Hd (Nat.lt_succ_of_le (Nat.le_of_lt HN3.out));obtain⟨c4_00,c4_01,c4_02⟩:=HP4.out.own.tk (b:=w1.heap.size) (t:=T) (by simp);)
    | (go_at_call 322;refine(Hexpr.out _ HN2.out _ _ _ HP2.out).mono ?_;rintro e w3 (⟨ps,hr,rfl,hb⟩|⟨a3,s3,hr,rfl,hn,hp⟩);(exact⟨rfl,.er (zk HS2.out hr) hb⟩);have HS3:=Hd (zj HS2.out hr);have HP3:=Hd hp;clear hp hr;have HN3:=Hd (Nat.lt_of_lt_of_le HN2.out hn);clear hn;obtain⟨c3_00,c3_01,c3_02⟩:=HP3.out.own.tk (b:=w1.heap.size) (t:=T) (by simp);)
    | (go_at_call 320;refine(eY HE.out HP1.out _ H1.out).mono ?_;rintro e w2 ⟨rfl,hp⟩;have HP2:=Hd hp;clear hp;have HN2:Hid (s.next<_):=Hd (Nat.lt_succ_of_le HN1.out);have HS2:=HS1;obtain⟨c2_00,c2_01,c2_02⟩:=HP2.out.own.tk (b:=w1.heap.size) (t:=T) (by simp);)
    | (go_at_call 241;refine(zM HE.out HP0.out HT.out).mono ?_;rintro e w1 ⟨rfl,hp⟩;have HP1:=Hd (hp.alloc (tkO T));clear hp;have HN1:=HN0;have HS1:=HS0;obtain⟨c1_00,c1_01,c1_02⟩:=HP1.out.own.tk (b:=w1.heap.size) (t:=T) (by simp);))
   refine N.region_C [false,false,false,false,false,true,true,true,true] [?vC10_0,?vC10_1,?vC10_2,?vC10_3,?vC10_4,undef,undef,undef,undef] hmo (by kernel_rfl) (by kernel_rfl) (by kernel_rfl) (by kernel_rfl) rfl rfl (fun ch w=>RdI c F d s.next S (.panicked ch) w) (fun ch b w hd h=>⟨hd,h⟩) (fun Wz=>Wz.heap[w1.heap.size]?=some (tkO T)) (HP6.out.drew.own (w1.heap.size,tkO T) (by simp)) ?wC10_ ?_
   case wC10_=>
    iterate 5 (refine N.WalkC.still (N.StillP.known rfl ?_) ?_;(intro W hJ;have j00:=za (i:=0) hJ rfl;have j01:=za (i:=1) hJ rfl;have j02:=za (i:=2) hJ rfl;go_simp;rfl);simp only[N.pz])
    refine N.WalkC.chain fun u5=>?_;simp only[N.pz];refine N.WalkC.chain fun u6=>?_;simp only[N.pz];refine N.WalkC.chain fun u7=>?_;simp only[N.pz];refine N.WalkC.chain fun u8=>?_;simp only[N.pz];exact .nil
   iterate 5 (refine N.TailC.still ?_;simp only[N.pz])
   refine N.TailC.call (f:=322) (args:=#[c.ptr]) rfl ?a5 ?_;case a5=>go_simp;try rfl
   refine(Hexpr.out _ HN6.out _ _ _ HP6.out.drew).mono ?_;rintro e w7 (⟨ps,hr,rfl,hb⟩|⟨a7,s7,hr,rfl,hn,hp⟩)
   ·exact .inr ⟨_,rfl,.er (zk HS6.out hr) hb⟩
   have HS7:=Hd (zj HS6.out hr);have HP7:=Hd hp;have HN7:=Hd (Nat.lt_of_lt_of_le HN6.out hn);clear hp hn hr;refine .inl ⟨_,rfl,(fun _=>HP7.out.own (w1.heap.size,tkO T) (by simp)),?_⟩;simp only[N.pz];refine N.TailC.run (v:=.slice (some ⟨w7.heap.size,0,none⟩) 3 3) (w':=w7.alloc (.cells #[intV a3,intV a5,intV a7] 3)) rfl ?a6 (fun _=>(HP7.out.alloc _).drop.own (w1.heap.size,tkO T) (by simp)) ?b6;case a6=>go_simp;try rfl
   simp only[N.pz];refine N.TailC.call (f:=316) (args:=#[c.ptr,.int .u8 19,tkA T,strV [],intV 0,.slice (some ⟨w7.heap.size,0,none⟩) 3 3]) rfl ?a7 ?_;case a7=>go_simp;try rfl
   refine(kA HE.out HP7.out 19 T [] 0 [a3,a5,a7] rfl).mono ?_;rintro e w8⟨rfl,hp⟩;have HP8:=Hd hp;have HS8:=HS7;have HN8:=HN7;clear hp;refine .inl ⟨_,rfl,(fun _=>HP8.out.own (w1.heap.size,tkO T) (by simp)),?_⟩;simp only[N.pz];refine N.TailC.run (v:=intV s7.nodes.length) (w':=w8) rfl ?a8 (fun h=>absurd rfl h) ?b8;case a8=>go_simp;try rfl
   simp only[N.pz];refine N.TailC.nil ?_;go_wp2;go_ret;exact .ok HS8.out (Nat.le_of_lt HN8.out) ((HP8.out.drop).less (by omega))
 | false=>
   cases h2:isP c.E s wLet with
   | true=>
     simp only[h1,h2,if_true,if_false,Bool.false_eq_true,ite_true,ite_false]at hS;have HS0:=Hd hS.symm;have H1:=Hd h1;have H2:=Hd h2;clear hS hT h1 h2;go_enter func322,ntmps322
     go_wp2_with (first
      | (go_at_call 244;refine(bC HE.out HP6.out _).mono ?_;rintro e w7 (⟨ps,hr,rfl,hb⟩|⟨hr,-,rfl,hp⟩);(exact⟨rfl,.er (zk HS6.out hr) hb⟩);have HS7:=Hd (zj HS6.out hr);have HP7:=Hd hp;clear hp hr;have HN7:Hid (s.next<_):=Hd (Nat.lt_succ_of_le (Nat.le_of_lt HN6.out));obtain⟨c7_00,c7_01,c7_02⟩:=HP7.out.own.tk (b:=w4.heap.size) (t:=U) (by simp);obtain⟨c7_10,c7_11,c7_12⟩:=HP7.out.own.tk (b:=w1.heap.size) (t:=T) (by simp);)
      | (go_at_call 322;refine(Hexpr.out _ HN5.out _ _ _ HP5.out).mono ?_;rintro e w6 (⟨ps,hr,rfl,hb⟩|⟨a6,s6,hr,rfl,hn,hp⟩);(exact⟨rfl,.er (zk HS5.out hr) hb⟩);have HS6:=Hd (zj HS5.out hr);have HP6:=Hd hp;clear hp hr;have HN6:=Hd (Nat.lt_of_lt_of_le HN5.out hn);clear hn;obtain⟨c6_00,c6_01,c6_02⟩:=HP6.out.own.tk (b:=w4.heap.size) (t:=U) (by simp);obtain⟨c6_10,c6_11,c6_12⟩:=HP6.out.own.tk (b:=w1.heap.size) (t:=T) (by simp);)
      | (go_at_call 244;refine(bC HE.out HP4.out _).mono ?_;rintro e w5 (⟨ps,hr,rfl,hb⟩|⟨hr,-,rfl,hp⟩);(exact⟨rfl,.er (zk HS4.out hr) hb⟩);have HS5:=Hd (zj HS4.out hr);have HP5:=Hd hp;clear hp hr;have HN5:Hid (s.next<_):=Hd (Nat.lt_succ_of_le (Nat.le_of_lt HN4.out));obtain⟨c5_00,c5_01,c5_02⟩:=HP5.out.own.tk (b:=w4.heap.size) (t:=U) (by simp);obtain⟨c5_10,c5_11,c5_12⟩:=HP5.out.own.tk (b:=w1.heap.size) (t:=T) (by simp);)
      | (go_at_call 314;refine(iV HE.out HP3.out).mono ?_;rintro e w4 (⟨ps,hr,rfl,hb⟩|⟨hr,-,he,hp⟩);(exact⟨rfl,.er (zk HS3.out hr) hb⟩);have q:=zj HS3.out hr;subst he;obtain⟨U,hU⟩:∃y,zi c.E s.take=y:=⟨_,rfl⟩;rw[hU];rw[hU]at q;have HU:=Hd hU;clear hU;have HS4:=Hd q;have HP4:=Hd (hp.alloc (tkO U));clear hp hr q;have HN4:Hid (s.next<_):=Hd (Nat.lt_succ_of_le (Nat.le_of_lt HN3.out));obtain⟨c4_00,c4_01,c4_02⟩:=HP4.out.own.tk (b:=w4.heap.size) (t:=U) (by simp);obtain⟨c4_10,c4_11,c4_12⟩:=HP4.out.own.tk (b:=w1.heap.size) (t:=T) (by simp);)
      | (go_at_call 320;refine(eY HE.out HP2.out _ H2.out).mono ?_;rintro e w3 ⟨rfl,hp⟩;have HP3:=Hd hp;clear hp;have HN3:Hid (s.next<_):=Hd (Nat.lt_succ_of_le HN2.out);have HS3:=HS2;obtain⟨c3_00,c3_01,c3_02⟩:=HP3.out.own.tk (b:=w1.heap.size) (t:=T) (by simp);)
      | (go_at_call 320;refine(dE HE.out HP1.out _ H1.out).mono ?_;rintro e w2 ⟨rfl,hp⟩;have HP2:=Hd hp;clear hp;have HN2:=HN1;have HS2:=HS1;obtain⟨c2_00,c2_01,c2_02⟩:=HP2.out.own.tk (b:=w1.heap.size) (t:=T) (by simp);)
      | (go_at_call 241;refine(zM HE.out HP0.out HT.out).mono ?_;rintro e w1 ⟨rfl,hp⟩;have HP1:=Hd (hp.alloc (tkO T));clear hp;have HN1:=HN0;have HS1:=HS0;obtain⟨c1_00,c1_01,c1_02⟩:=HP1.out.own.tk (b:=w1.heap.size) (t:=T) (by simp);))
     refine N.region_C [false,false,false,false,false,false,true,true,true,true] [?vC11_0,?vC11_1,?vC11_2,?vC11_3,?vC11_4,?vC11_5,undef,undef,undef,undef] hmo (by kernel_rfl) (by kernel_rfl) (by kernel_rfl) (by kernel_rfl) rfl rfl (fun ch w=>RdI c F d s.next S (.panicked ch) w) (fun ch b w hd h=>⟨hd,h⟩) (fun Wz=>Wz.heap[w4.heap.size]?=some (tkO U)∧Wz.heap[w1.heap.size]?=some (tkO T)) ⟨HP7.out.drew.own (w4.heap.size,tkO U) (by simp),HP7.out.drew.own (w1.heap.size,tkO T) (by simp)⟩ ?wC11_ ?_
     case wC11_=>
      iterate 6 (refine N.WalkC.still (N.StillP.known rfl ?_) ?_;(intro W hJ;obtain⟨hj0,hj1⟩:=hJ;have j00:=za (i:=0) hj0 rfl;have j01:=za (i:=1) hj0 rfl;have j02:=za (i:=2) hj0 rfl;have j10:=za (i:=0) hj1 rfl;have j11:=za (i:=1) hj1 rfl;have j12:=za (i:=2) hj1 rfl;go_simp;rfl);simp only[N.pz])
      refine N.WalkC.chain fun u6=>?_;simp only[N.pz];refine N.WalkC.chain fun u7=>?_;simp only[N.pz];refine N.WalkC.chain fun u8=>?_;simp only[N.pz];refine N.WalkC.chain fun u9=>?_;simp only[N.pz];exact .nil
     iterate 6 (refine N.TailC.still ?_;simp only[N.pz])
     refine N.TailC.call (f:=322) (args:=#[c.ptr]) rfl ?a6 ?_;case a6=>go_simp;try rfl
     refine(Hexpr.out _ HN7.out _ _ _ HP7.out.drew).mono ?_;rintro e w8 (⟨ps,hr,rfl,hb⟩|⟨a8,s8,hr,rfl,hn,hp⟩)
     ·exact .inr ⟨_,rfl,.er (zk HS7.out hr) hb⟩
     have HS8:=Hd (zj HS7.out hr);have HP8:=Hd hp;have HN8:=Hd (Nat.lt_of_lt_of_le HN7.out hn);clear hp hn hr;refine .inl ⟨_,rfl,(fun _=>⟨HP8.out.own (w4.heap.size,tkO U) (by simp),HP8.out.own (w1.heap.size,tkO T) (by simp)⟩),?_⟩;simp only[N.pz];refine N.TailC.run (v:=.slice (some ⟨w8.heap.size,0,none⟩) 2 2) (w':=w8.alloc (.cells #[intV a6,intV a8] 3)) rfl ?a7 (fun _=>⟨(HP8.out.alloc _).drop.own (w4.heap.size,tkO U) (by simp),(HP8.out.alloc _).drop.own (w1.heap.size,tkO T) (by simp)⟩) ?b7;case a7=>go_simp;try rfl
     simp only[N.pz];refine N.TailC.call (f:=316) (args:=#[c.ptr,.int .u8 20,tkA T,strV U.text,intV 0,.slice (some ⟨w8.heap.size,0,none⟩) 2 2]) rfl ?a8 ?_;case a8=>go_simp;try rfl
     refine(kA HE.out HP8.out 20 T U.text 0 [a6,a8] rfl).mono ?_;rintro e w9⟨rfl,hp⟩;have HP9:=Hd hp;have HS9:=HS8;have HN9:=HN8;clear hp;refine .inl ⟨_,rfl,(fun _=>⟨HP9.out.own (w4.heap.size,tkO U) (by simp),HP9.out.own (w1.heap.size,tkO T) (by simp)⟩),?_⟩;simp only[N.pz];refine N.TailC.run (v:=intV s8.nodes.length) (w':=w9) rfl ?a9 (fun h=>absurd rfl h) ?b9;case a9=>go_simp;try rfl
     simp only[N.pz];refine N.TailC.nil ?_;go_wp2;go_ret;exact .ok HS9.out (Nat.le_of_lt HN9.out) ((HP9.out.drop.drop).less (by omega))
   | false=>
     simp only[h1,h2,if_true,if_false,Bool.false_eq_true,ite_true,ite_false]at hS;have HS0:=Hd hS.symm;have H1:=Hd h1;have H2:=Hd h2;clear hS hT h1 h2;go_enter func322,ntmps322
     go_wp2_with (first
      | (go_at_call 329;refine(Hor.out _ _ _ HP3.out).mono ?_;rintro e w4 (⟨ps,hr,rfl,hb⟩|⟨a4,s4,hr,rfl,hn,hp⟩);(exact⟨rfl,.er (HS3.out.trans hr) hb⟩);have HS4:=Hd (HS3.out.trans hr);have HP4:=Hd hp;clear hp hr;have HN4:=Hd (Nat.le_trans HN3.out hn);clear hn;obtain⟨c4_00,c4_01,c4_02⟩:=HP4.out.own.tk (b:=w1.heap.size) (t:=T) (by simp);)
      | (go_at_call 320;refine(dE HE.out HP2.out _ H2.out).mono ?_;rintro e w3 ⟨rfl,hp⟩;have HP3:=Hd hp;clear hp;have HN3:=HN2;have HS3:=HS2;obtain⟨c3_00,c3_01,c3_02⟩:=HP3.out.own.tk (b:=w1.heap.size) (t:=T) (by simp);)
      | (go_at_call 320;refine(dE HE.out HP1.out _ H1.out).mono ?_;rintro e w2 ⟨rfl,hp⟩;have HP2:=Hd hp;clear hp;have HN2:=HN1;have HS2:=HS1;obtain⟨c2_00,c2_01,c2_02⟩:=HP2.out.own.tk (b:=w1.heap.size) (t:=T) (by simp);)
      | (go_at_call 241;refine(zM HE.out HP0.out HT.out).mono ?_;rintro e w1 ⟨rfl,hp⟩;have HP1:=Hd (hp.alloc (tkO T));clear hp;have HN1:=HN0;have HS1:=HS0;obtain⟨c1_00,c1_01,c1_02⟩:=HP1.out.own.tk (b:=w1.heap.size) (t:=T) (by simp);))
     go_ret;exact .ok HS4.out HN4.out ((HP4.out.drop).less (by omega))
theorem LP{c:PC}(he:OkC c){expr put:RdP}{s:PS}(nm:Tk)(hexpr:∀s',s.next<s'.next→zt c 322 expr s')(hput:∀s',s.next<s'.next→zt c 342 put s'):∀(F:List (Nat×Obj)) (d:Nat) (X:World),PQ c s F (d+1) X→Calls prog 341 #[c.ptr,tkA nm] X (RdI c F d s.next (rH expr put c.E nm s)):=by
 intro F d X h;have HE:=Hd he;have Hexpr:=Hd hexpr;have Hput:=Hd hput;have HP0:=Hd h;have HN0:Hid (s.next≤s.next):=Hd nlr;obtain⟨S,hS⟩:∃S,rH expr put c.E nm s=S:=⟨_,rfl⟩
 try rw[hS]
 unfold rH at hS;obtain⟨T,hT⟩:∃T,zi c.E s=T:=⟨_,rfl⟩
 try rw[hT]at hS
 have HT:=Hd hT;clear he h hexpr hput;have hmo:prog.follows .mixedOrders=true:=by kernel_rfl
 cases h1:isP c.E s FM with
 | true=>
   cases h2:isP c.E s.take pY with
   | true=>
     simp only[h1,h2,if_true,if_false,Bool.false_eq_true,ite_true,ite_false]at hS;have HS0:=Hd hS.symm;have H1:=Hd h1;have H2:=Hd h2;clear hS hT h1 h2
     replace HP0:=Hd (HP0.out.alloc (tkO nm))
     obtain⟨c0_00,c0_01,c0_02⟩:=HP0.out.own.tk (b:=X.heap.size) (t:=nm) (by simp);go_enter func341,ntmps341
     go_wp2_with (first
      | (go_at_call 316;refine(QAdd0 HE.out HP4.out 21 nm nm.text 0).mono ?_;rintro e w5 ⟨rfl,hp⟩;have HP5:=Hd hp;clear hp;have HN5:=HN4;have HS5:=HS4;)
      | (go_at_call 244;refine(bC HE.out HP3.out _).mono ?_;rintro e w4 (⟨ps,hr,rfl,hb⟩|⟨hr,-,rfl,hp⟩);(exact⟨rfl,.er (zk HS3.out hr) hb⟩);have HS4:=Hd (zj HS3.out hr);have HP4:=Hd hp;clear hp hr;have HN4:Hid (s.next<_):=Hd (Nat.lt_succ_of_le (Nat.le_of_lt HN3.out));obtain⟨c4_00,c4_01,c4_02⟩:=HP4.out.own.tk (b:=X.heap.size) (t:=nm) (by simp);)
      | (go_at_call 294;refine(QIsP HE.out HP1.out pY rfl H2.out).mono ?_;rintro e w2 ⟨rfl,hp⟩;have HP2:=Hd hp;clear hp;have HN2:=HN1;have HS2:=HS1;obtain⟨c2_00,c2_01,c2_02⟩:=HP2.out.own.tk (b:=X.heap.size) (t:=nm) (by simp);have HS3:=Hd (zj HS2.out rfl);have HP3:=HP2;have HN3:=HN2)
      | (go_at_call 320;refine(eY HE.out HP0.out _ H1.out).mono ?_;rintro e w1 ⟨rfl,hp⟩;have HP1:=Hd hp;clear hp;have HN1:Hid (s.next<_):=Hd (Nat.lt_succ_of_le HN0.out);have HS1:=HS0;obtain⟨c1_00,c1_01,c1_02⟩:=HP1.out.own.tk (b:=X.heap.size) (t:=nm) (by simp);))
     go_ret;exact .ok HS5.out (Nat.le_of_lt HN5.out) ((HP5.out.drop).less (by omega))
   | false=>
     simp only[h1,h2,if_true,if_false,Bool.false_eq_true,ite_true,ite_false]at hS;have HS0:=Hd hS.symm;have H1:=Hd h1;have H2:=Hd h2;clear hS hT h1 h2
     replace HP0:=Hd (HP0.out.alloc (tkO nm))
     obtain⟨c0_00,c0_01,c0_02⟩:=HP0.out.own.tk (b:=X.heap.size) (t:=nm) (by simp);go_enter func341,ntmps341
     go_wp2_with (first
      | (go_at_call 316;refine(oD HE.out HP4.out 21 nm nm.text 0 HLK3.out).mono ?_;rintro e w5 ⟨rfl,hp⟩;have HP5:=Hd hp;clear hp;have HN5:=HN4;have HS5:=HS4;)
      | (go_at_call 244;refine(bC HE.out HP3.out _).mono ?_;rintro e w4 (⟨ps,hr,rfl,hb⟩|⟨hr,-,rfl,hp⟩);(exact⟨rfl,.er (zk HS3.out hr) hb⟩);have HS4:=Hd (zj HS3.out hr);have HP4:=Hd hp;clear hp hr;have HN4:Hid (s.next<_):=Hd (Nat.lt_succ_of_le (Nat.le_of_lt HN3.out));obtain⟨c4_00,c4_01,c4_02⟩:=HP4.out.own.tk (b:=X.heap.size) (t:=nm) (by simp);)
      | (go_at_call 317;refine(mB HE.out (fun s2 h2=>Hexpr.out s2 (Nat.lt_of_lt_of_le HN2.out h2)) HP2.out).mono ?_;rintro e w3 (⟨ps,hr,rfl,hb⟩|⟨l3,s3,q3,cp3,K3,hr,rfl,hn,hlk,hkl,hp⟩);(exact⟨rfl,.er (zk HS2.out hr) hb⟩);have HS3:=Hd (zj HS2.out hr);have HP3:=Hd hp;have HLK3:=Hd hkl;have HLL3:=Hd hlk;clear hp hr hlk hkl;have HN3:=Hd (Nat.lt_of_lt_of_le HN2.out hn);clear hn;obtain⟨c3_00,c3_01,c3_02⟩:=HP3.out.own.tk (b:=X.heap.size) (t:=nm) (by simp);)
      | (go_at_call 294;refine(QIsP HE.out HP1.out pY rfl H2.out).mono ?_;rintro e w2 ⟨rfl,hp⟩;have HP2:=Hd hp;clear hp;have HN2:=HN1;have HS2:=HS1;obtain⟨c2_00,c2_01,c2_02⟩:=HP2.out.own.tk (b:=X.heap.size) (t:=nm) (by simp);)
      | (go_at_call 320;refine(eY HE.out HP0.out _ H1.out).mono ?_;rintro e w1 ⟨rfl,hp⟩;have HP1:=Hd hp;clear hp;have HN1:Hid (s.next<_):=Hd (Nat.lt_succ_of_le HN0.out);have HS1:=HS0;obtain⟨c1_00,c1_01,c1_02⟩:=HP1.out.own.tk (b:=X.heap.size) (t:=nm) (by simp);))
     go_ret;exact .ok HS5.out (Nat.le_of_lt HN5.out) ((HP5.out.drop).less (by omega))
 | false=>
   cases h3:isP c.E s xP with
   | true=>
     simp only[h1,h3,if_true,if_false,Bool.false_eq_true,ite_true,ite_false]at hS;have HS0:=Hd hS.symm;have H1:=Hd h1;have H3:=Hd h3;clear hS hT h1 h3
     replace HP0:=Hd (HP0.out.alloc (tkO nm))
     obtain⟨c0_00,c0_01,c0_02⟩:=HP0.out.own.tk (b:=X.heap.size) (t:=nm) (by simp);go_enter func341,ntmps341
     go_wp2_with (first
      | (go_at_call 316;refine(oD HE.out HP4.out 24 nm nm.text 0 HLK3.out).mono ?_;rintro e w5 ⟨rfl,hp⟩;have HP5:=Hd hp;clear hp;have HN5:=HN4;have HS5:=HS4;)
      | (go_at_call 244;refine(bC HE.out HP3.out _).mono ?_;rintro e w4 (⟨ps,hr,rfl,hb⟩|⟨hr,-,rfl,hp⟩);(exact⟨rfl,.er (zk HS3.out hr) hb⟩);have HS4:=Hd (zj HS3.out hr);have HP4:=Hd hp;clear hp hr;have HN4:Hid (s.next<_):=Hd (Nat.lt_succ_of_le (Nat.le_of_lt HN3.out));obtain⟨c4_00,c4_01,c4_02⟩:=HP4.out.own.tk (b:=X.heap.size) (t:=nm) (by simp);)
      | (go_at_call 317;refine(DE HE.out (fun s2 h2=>Hput.out s2 (Nat.lt_of_lt_of_le HN2.out h2)) HP2.out).mono ?_;rintro e w3 (⟨ps,hr,rfl,hb⟩|⟨l3,s3,q3,cp3,K3,hr,rfl,hn,hlk,hkl,hp⟩);(exact⟨rfl,.er (zk HS2.out hr) hb⟩);have HS3:=Hd (zj HS2.out hr);have HP3:=Hd hp;have HLK3:=Hd hkl;have HLL3:=Hd hlk;clear hp hr hlk hkl;have HN3:=Hd (Nat.lt_of_lt_of_le HN2.out hn);clear hn;obtain⟨c3_00,c3_01,c3_02⟩:=HP3.out.own.tk (b:=X.heap.size) (t:=nm) (by simp);)
      | (go_at_call 320;refine(eY HE.out HP1.out _ H3.out).mono ?_;rintro e w2 ⟨rfl,hp⟩;have HP2:=Hd hp;clear hp;have HN2:Hid (s.next<_):=Hd (Nat.lt_succ_of_le HN1.out);have HS2:=HS1;obtain⟨c2_00,c2_01,c2_02⟩:=HP2.out.own.tk (b:=X.heap.size) (t:=nm) (by simp);)
      | (go_at_call 320;refine(dE HE.out HP0.out _ H1.out).mono ?_;rintro e w1 ⟨rfl,hp⟩;have HP1:=Hd hp;clear hp;have HN1:=HN0;have HS1:=HS0;obtain⟨c1_00,c1_01,c1_02⟩:=HP1.out.own.tk (b:=X.heap.size) (t:=nm) (by simp);))
     go_ret;exact .ok HS5.out (Nat.le_of_lt HN5.out) ((HP5.out.drop).less (by omega))
   | false=>
     simp only[h1,h3,if_true,if_false,Bool.false_eq_true,ite_true,ite_false]at hS;have HS0:=Hd hS.symm;have H1:=Hd h1;have H3:=Hd h3;clear hS hT h1 h3
     replace HP0:=Hd (HP0.out.alloc (tkO nm))
     obtain⟨c0_00,c0_01,c0_02⟩:=HP0.out.own.tk (b:=X.heap.size) (t:=nm) (by simp);go_enter func341,ntmps341
     go_wp2_with (first
      | (go_at_call 316;refine(QAdd0 HE.out HP2.out 3 nm nm.text 0).mono ?_;rintro e w3 ⟨rfl,hp⟩;have HP3:=Hd hp;clear hp;have HN3:=HN2;have HS3:=HS2;)
      | (go_at_call 320;refine(dE HE.out HP1.out _ H3.out).mono ?_;rintro e w2 ⟨rfl,hp⟩;have HP2:=Hd hp;clear hp;have HN2:=HN1;have HS2:=HS1;obtain⟨c2_00,c2_01,c2_02⟩:=HP2.out.own.tk (b:=X.heap.size) (t:=nm) (by simp);)
      | (go_at_call 320;refine(dE HE.out HP0.out _ H1.out).mono ?_;rintro e w1 ⟨rfl,hp⟩;have HP1:=Hd hp;clear hp;have HN1:=HN0;have HS1:=HS0;obtain⟨c1_00,c1_01,c1_02⟩:=HP1.out.own.tk (b:=X.heap.size) (t:=nm) (by simp);))
     go_ret;exact .ok HS3.out HN3.out ((HP3.out.drop).less (by omega))
theorem IF{c:PC}(he:OkC c){param:RdP}{s:PS}(nm:Tk)(hparam:∀s',s.next<s'.next→zt c 318 param s'):∀(F:List (Nat×Obj)) (d:Nat) (X:World),PQ c s F d X→Calls prog 288 #[c.ptr,tkA nm] X (RdI c F d s.next (kT param c.E nm s)):=by
 intro F d X h;have HE:=Hd he;have Hparam:=Hd hparam;have HP0:=Hd h;have HN0:Hid (s.next≤s.next):=Hd nlr;obtain⟨S,hS⟩:∃S,kT param c.E nm s=S:=⟨_,rfl⟩
 try rw[hS]
 unfold kT at hS;obtain⟨T,hT⟩:∃T,zi c.E s=T:=⟨_,rfl⟩
 rw[hT]at hS;have HT:=Hd hT;clear he h hparam;have hmo:prog.follows .mixedOrders=true:=by kernel_rfl
 have HS0:=Hd hS.symm;clear hS hT
 replace HP0:=Hd (HP0.out.alloc (tkO nm))
 obtain⟨c0_00,c0_01,c0_02⟩:=HP0.out.own.tk (b:=X.heap.size) (t:=nm) (by simp);go_enter func288,ntmps288
 go_wp2_with (first
  | (go_at_call 316;refine(oD HE.out HP5.out 41 nm T.text 0 HLK4.out).mono ?_;rintro e w6 ⟨rfl,hp⟩;have HP6:=Hd hp;clear hp;have HN6:=HN5;have HS6:=HS5;)
  | (go_at_call 244;refine(bC HE.out HP4.out _).mono ?_;rintro e w5 (⟨ps,hr,rfl,hb⟩|⟨hr,-,rfl,hp⟩);(exact⟨rfl,.er (zk HS4.out hr) hb⟩);have HS5:=Hd (zj HS4.out hr);have HP5:=Hd hp;clear hp hr;have HN5:Hid (s.next<_):=Hd (Nat.lt_succ_of_le (Nat.le_of_lt HN4.out));obtain⟨c5_00,c5_01,c5_02⟩:=HP5.out.own.tk (b:=w1.heap.size) (t:=T) (by simp);obtain⟨c5_10,c5_11,c5_12⟩:=HP5.out.own.tk (b:=X.heap.size) (t:=nm) (by simp);)
  | (go_at_call 317;refine(oF HE.out (fun s2 h2=>Hparam.out s2 (Nat.lt_of_lt_of_le HN3.out h2)) HP3.out).mono ?_;rintro e w4 (⟨ps,hr,rfl,hb⟩|⟨l4,s4,q4,cp4,K4,hr,rfl,hn,hlk,hkl,hp⟩);(exact⟨rfl,.er (zk HS3.out hr) hb⟩);have HS4:=Hd (zj HS3.out hr);have HP4:=Hd hp;have HLK4:=Hd hkl;have HLL4:=Hd hlk;clear hp hr hlk hkl;have HN4:=Hd (Nat.lt_of_lt_of_le HN3.out hn);clear hn;obtain⟨c4_00,c4_01,c4_02⟩:=HP4.out.own.tk (b:=w1.heap.size) (t:=T) (by simp);obtain⟨c4_10,c4_11,c4_12⟩:=HP4.out.own.tk (b:=X.heap.size) (t:=nm) (by simp);)
  | (go_at_call 244;refine(bC HE.out HP2.out _).mono ?_;rintro e w3 (⟨ps,hr,rfl,hb⟩|⟨hr,-,rfl,hp⟩);(exact⟨rfl,.er (zk HS2.out hr) hb⟩);have HS3:=Hd (zj HS2.out hr);have HP3:=Hd hp;clear hp hr;have HN3:Hid (s.next<_):=Hd (Nat.lt_succ_of_le (Nat.le_of_lt HN2.out));obtain⟨c3_00,c3_01,c3_02⟩:=HP3.out.own.tk (b:=w1.heap.size) (t:=T) (by simp);obtain⟨c3_10,c3_11,c3_12⟩:=HP3.out.own.tk (b:=X.heap.size) (t:=nm) (by simp);)
  | (go_at_call 244;refine(bC HE.out HP1.out _).mono ?_;rintro e w2 (⟨ps,hr,rfl,hb⟩|⟨hr,-,rfl,hp⟩);(exact⟨rfl,.er (zk HS1.out hr) hb⟩);have HS2:=Hd (zj HS1.out hr);have HP2:=Hd hp;clear hp hr;have HN2:Hid (s.next<_):=Hd (Nat.lt_succ_of_le (Nat.le_of_lt HN1.out));obtain⟨c2_00,c2_01,c2_02⟩:=HP2.out.own.tk (b:=w1.heap.size) (t:=T) (by simp);obtain⟨c2_10,c2_11,c2_12⟩:=HP2.out.own.tk (b:=X.heap.size) (t:=nm) (by simp);)
  | (go_at_call 314;refine(iV HE.out HP0.out).mono ?_;rintro e w1 (⟨ps,hr,rfl,hb⟩|⟨hr,-,he,hp⟩);(exact⟨rfl,.er (zk HS0.out hr) hb⟩);have q:=zj HS0.out hr;rw[HT.out]at he;subst he;have HS1:=Hd q;have HP1:=Hd (hp.alloc (tkO T));clear hp hr q;have HN1:Hid (s.next<_):=Hd (Nat.lt_succ_of_le HN0.out);obtain⟨c1_00,c1_01,c1_02⟩:=HP1.out.own.tk (b:=w1.heap.size) (t:=T) (by simp);obtain⟨c1_10,c1_11,c1_12⟩:=HP1.out.own.tk (b:=X.heap.size) (t:=nm) (by simp);))
 go_ret;exact .ok HS6.out (Nat.le_of_lt HN6.out) ((HP6.out.drop.drop).less (by omega))
theorem NF{c:PC}(he:OkC c){expr put:RdP}{s:PS}(hexpr:∀s',s.next<s'.next→zt c 322 expr s')(hput:∀s',s.next<s'.next→zt c 342 put s'):zt c 340 (AU expr put c.E) s:=by
 intro F d X h;have HE:=Hd he;have Hexpr:=Hd hexpr;have Hput:=Hd hput;have HP0:=Hd h;have HN0:Hid (s.next≤s.next):=Hd nlr;obtain⟨S,hS⟩:∃S,AU expr put c.E s=S:=⟨_,rfl⟩
 try rw[hS]
 unfold AU at hS;obtain⟨T,hT⟩:∃T,zi c.E s=T:=⟨_,rfl⟩
 rw[hT]at hS;have HT:=Hd hT;clear he h hexpr hput;have hmo:prog.follows .mixedOrders=true:=by kernel_rfl
 cases h0:(T.kind==2)with
 | true=>
   simp only[h0,if_true,if_false,Bool.false_eq_true,ite_true,ite_false]at hS;have HS0:=Hd hS.symm;have H0:=Hd h0;clear hS hT;go_enter func340,ntmps340
   go_wp2_with (first
    | (go_at_call 316;refine(QAdd0 HE.out HP2.out 1 T [] v).mono ?_;rintro e w3 ⟨rfl,hp⟩;have HP3:=Hd hp;clear hp;have HN3:=HN2;have HS3:=HS2;)
    | (go_at_call 321;refine(jP HE.out HP1.out).mono ?_;rintro e w2 (⟨ps,hr,rfl,hb⟩|⟨hr,-,he,hv0,hv1,hp⟩);(exact absurd (hr.symm.trans (JK HT.out H0.out)) (by simp));have q:=HS1.out;rw[HT.out]at he hv0 hv1;subst he;obtain⟨v,hv⟩:∃v,valP T.text=v:=⟨_,rfl⟩;rw[hv]at q hv0 hv1;rw[hv];clear hv;(try simp only[Int.neg_mul,Int.one_mul]at q);have HS2:=Hd q;have HP2:=Hd (hp.alloc (tkO T));clear hp hr q;have HN2:Hid (s.next<_):=Hd (Nat.lt_succ_of_le HN1.out);obtain⟨c2_00,c2_01,c2_02⟩:=HP2.out.own.tk (b:=w2.heap.size) (t:=T) (by simp);obtain⟨c2_10,c2_11,c2_12⟩:=HP2.out.own.tk (b:=w1.heap.size) (t:=T) (by simp);)
    | (go_at_call 241;refine(zM HE.out HP0.out HT.out).mono ?_;rintro e w1 ⟨rfl,hp⟩;have HP1:=Hd (hp.alloc (tkO T));clear hp;have HN1:=HN0;have HS1:=HS0;obtain⟨c1_00,c1_01,c1_02⟩:=HP1.out.own.tk (b:=w1.heap.size) (t:=T) (by simp);))
   go_ret;exact .ok HS3.out (Nat.le_of_lt HN3.out) ((HP3.out.drop.drop).less (by omega))
 | false=>
   cases h1:isP c.E s OF with
   | true=>
     simp only[h0,h1,if_true,if_false,Bool.false_eq_true,ite_true,ite_false]at hS;have HS0:=Hd hS.symm;have H0:=Hd h0;have H1:=Hd h1;clear hS hT h1;go_enter func340,ntmps340
     go_wp2_with (first
      | (go_at_call 316;refine(QAdd0 HE.out HP2.out 2 T [] 1).mono ?_;rintro e w3 ⟨rfl,hp⟩;have HP3:=Hd hp;clear hp;have HN3:=HN2;have HS3:=HS2;)
      | (go_at_call 320;refine(eY HE.out HP1.out _ H1.out).mono ?_;rintro e w2 ⟨rfl,hp⟩;have HP2:=Hd hp;clear hp;have HN2:Hid (s.next<_):=Hd (Nat.lt_succ_of_le HN1.out);have HS2:=HS1;obtain⟨c2_00,c2_01,c2_02⟩:=HP2.out.own.tk (b:=w1.heap.size) (t:=T) (by simp);)
      | (go_at_call 241;refine(zM HE.out HP0.out HT.out).mono ?_;rintro e w1 ⟨rfl,hp⟩;have HP1:=Hd (hp.alloc (tkO T));clear hp;have HN1:=HN0;have HS1:=HS0;obtain⟨c1_00,c1_01,c1_02⟩:=HP1.out.own.tk (b:=w1.heap.size) (t:=T) (by simp);))
     go_ret;exact .ok HS3.out (Nat.le_of_lt HN3.out) ((HP3.out.drop).less (by omega))
   | false=>
     cases h2:isP c.E s LM with
     | true=>
       simp only[h0,h1,h2,if_true,if_false,Bool.false_eq_true,ite_true,ite_false]at hS;have HS0:=Hd hS.symm;have H0:=Hd h0;have H1:=Hd h1;have H2:=Hd h2;clear hS hT h1 h2;go_enter func340,ntmps340
       go_wp2_with (first
        | (go_at_call 316;refine(QAdd0 HE.out HP3.out 2 T [] 0).mono ?_;rintro e w4 ⟨rfl,hp⟩;have HP4:=Hd hp;clear hp;have HN4:=HN3;have HS4:=HS3;)
        | (go_at_call 320;refine(eY HE.out HP2.out _ H2.out).mono ?_;rintro e w3 ⟨rfl,hp⟩;have HP3:=Hd hp;clear hp;have HN3:Hid (s.next<_):=Hd (Nat.lt_succ_of_le HN2.out);have HS3:=HS2;obtain⟨c3_00,c3_01,c3_02⟩:=HP3.out.own.tk (b:=w1.heap.size) (t:=T) (by simp);)
        | (go_at_call 320;refine(dE HE.out HP1.out _ H1.out).mono ?_;rintro e w2 ⟨rfl,hp⟩;have HP2:=Hd hp;clear hp;have HN2:=HN1;have HS2:=HS1;obtain⟨c2_00,c2_01,c2_02⟩:=HP2.out.own.tk (b:=w1.heap.size) (t:=T) (by simp);)
        | (go_at_call 241;refine(zM HE.out HP0.out HT.out).mono ?_;rintro e w1 ⟨rfl,hp⟩;have HP1:=Hd (hp.alloc (tkO T));clear hp;have HN1:=HN0;have HS1:=HS0;obtain⟨c1_00,c1_01,c1_02⟩:=HP1.out.own.tk (b:=w1.heap.size) (t:=T) (by simp);))
       go_ret;exact .ok HS4.out (Nat.le_of_lt HN4.out) ((HP4.out.drop).less (by omega))
     | false=>
       cases h3:isP c.E s FM with
       | true=>
         simp only[h0,h1,h2,h3,if_true,if_false,Bool.false_eq_true,ite_true,ite_false]at hS;have HS0:=Hd hS.symm;have H0:=Hd h0;have H1:=Hd h1;have H2:=Hd h2;have H3:=Hd h3;clear hS hT h1 h2 h3;go_enter func340,ntmps340
         go_wp2_with (first
          | (go_at_call 244;refine(bC HE.out HP5.out _).mono ?_;rintro e w6 (⟨ps,hr,rfl,hb⟩|⟨hr,-,rfl,hp⟩);(exact⟨rfl,.er (zk HS5.out hr) hb⟩);have HS6:=Hd (zj HS5.out hr);have HP6:=Hd hp;clear hp hr;have HN6:Hid (s.next<_):=Hd (Nat.lt_succ_of_le (Nat.le_of_lt HN5.out));obtain⟨c6_00,c6_01,c6_02⟩:=HP6.out.own.tk (b:=w1.heap.size) (t:=T) (by simp);)
          | (go_at_call 322;refine(Hexpr.out _ HN4.out _ _ _ HP4.out).mono ?_;rintro e w5 (⟨ps,hr,rfl,hb⟩|⟨a5,s5,hr,rfl,hn,hp⟩);(exact⟨rfl,.er (zk HS4.out hr) hb⟩);have HS5:=Hd (zj HS4.out hr);have HP5:=Hd hp;clear hp hr;have HN5:=Hd (Nat.lt_of_lt_of_le HN4.out hn);clear hn;obtain⟨c5_00,c5_01,c5_02⟩:=HP5.out.own.tk (b:=w1.heap.size) (t:=T) (by simp);)
          | (go_at_call 320;refine(eY HE.out HP3.out _ H3.out).mono ?_;rintro e w4 ⟨rfl,hp⟩;have HP4:=Hd hp;clear hp;have HN4:Hid (s.next<_):=Hd (Nat.lt_succ_of_le HN3.out);have HS4:=HS3;obtain⟨c4_00,c4_01,c4_02⟩:=HP4.out.own.tk (b:=w1.heap.size) (t:=T) (by simp);)
          | (go_at_call 320;refine(dE HE.out HP2.out _ H2.out).mono ?_;rintro e w3 ⟨rfl,hp⟩;have HP3:=Hd hp;clear hp;have HN3:=HN2;have HS3:=HS2;obtain⟨c3_00,c3_01,c3_02⟩:=HP3.out.own.tk (b:=w1.heap.size) (t:=T) (by simp);)
          | (go_at_call 320;refine(dE HE.out HP1.out _ H1.out).mono ?_;rintro e w2 ⟨rfl,hp⟩;have HP2:=Hd hp;clear hp;have HN2:=HN1;have HS2:=HS1;obtain⟨c2_00,c2_01,c2_02⟩:=HP2.out.own.tk (b:=w1.heap.size) (t:=T) (by simp);)
          | (go_at_call 241;refine(zM HE.out HP0.out HT.out).mono ?_;rintro e w1 ⟨rfl,hp⟩;have HP1:=Hd (hp.alloc (tkO T));clear hp;have HN1:=HN0;have HS1:=HS0;obtain⟨c1_00,c1_01,c1_02⟩:=HP1.out.own.tk (b:=w1.heap.size) (t:=T) (by simp);))
         go_ret;exact .ok HS6.out (Nat.le_of_lt HN6.out) ((HP6.out.drop).less (by omega))
       | false=>
         cases h4:isP c.E s jI with
         | true=>
           simp only[h0,h1,h2,h3,h4,if_true,if_false,Bool.false_eq_true,ite_true,ite_false]at hS;have HS0:=Hd hS.symm;have H0:=Hd h0;have H1:=Hd h1;have H2:=Hd h2;have H3:=Hd h3;have H4:=Hd h4;clear hS hT h1 h2 h3 h4;go_enter func340,ntmps340
           go_wp2_with (first
            | (go_at_call 316;refine(oD HE.out HP7.out 26 T [] 0 HLK6.out).mono ?_;rintro e w8 ⟨rfl,hp⟩;have HP8:=Hd hp;clear hp;have HN8:=HN7;have HS8:=HS7;)
            | (go_at_call 244;refine(bC HE.out HP6.out _).mono ?_;rintro e w7 (⟨ps,hr,rfl,hb⟩|⟨hr,-,rfl,hp⟩);(exact⟨rfl,.er (zk HS6.out hr) hb⟩);have HS7:=Hd (zj HS6.out hr);have HP7:=Hd hp;clear hp hr;have HN7:Hid (s.next<_):=Hd (Nat.lt_succ_of_le (Nat.le_of_lt HN6.out));obtain⟨c7_00,c7_01,c7_02⟩:=HP7.out.own.tk (b:=w1.heap.size) (t:=T) (by simp);)
            | (go_at_call 317;refine(mB HE.out (fun s2 h2=>Hexpr.out s2 (Nat.lt_of_lt_of_le HN5.out h2)) HP5.out).mono ?_;rintro e w6 (⟨ps,hr,rfl,hb⟩|⟨l6,s6,q6,cp6,K6,hr,rfl,hn,hlk,hkl,hp⟩);(exact⟨rfl,.er (zk HS5.out hr) hb⟩);have HS6:=Hd (zj HS5.out hr);have HP6:=Hd hp;have HLK6:=Hd hkl;have HLL6:=Hd hlk;clear hp hr hlk hkl;have HN6:=Hd (Nat.lt_of_lt_of_le HN5.out hn);clear hn;obtain⟨c6_00,c6_01,c6_02⟩:=HP6.out.own.tk (b:=w1.heap.size) (t:=T) (by simp);)
            | (go_at_call 320;refine(eY HE.out HP4.out _ H4.out).mono ?_;rintro e w5 ⟨rfl,hp⟩;have HP5:=Hd hp;clear hp;have HN5:Hid (s.next<_):=Hd (Nat.lt_succ_of_le HN4.out);have HS5:=HS4;obtain⟨c5_00,c5_01,c5_02⟩:=HP5.out.own.tk (b:=w1.heap.size) (t:=T) (by simp);)
            | (go_at_call 320;refine(dE HE.out HP3.out _ H3.out).mono ?_;rintro e w4 ⟨rfl,hp⟩;have HP4:=Hd hp;clear hp;have HN4:=HN3;have HS4:=HS3;obtain⟨c4_00,c4_01,c4_02⟩:=HP4.out.own.tk (b:=w1.heap.size) (t:=T) (by simp);)
            | (go_at_call 320;refine(dE HE.out HP2.out _ H2.out).mono ?_;rintro e w3 ⟨rfl,hp⟩;have HP3:=Hd hp;clear hp;have HN3:=HN2;have HS3:=HS2;obtain⟨c3_00,c3_01,c3_02⟩:=HP3.out.own.tk (b:=w1.heap.size) (t:=T) (by simp);)
            | (go_at_call 320;refine(dE HE.out HP1.out _ H1.out).mono ?_;rintro e w2 ⟨rfl,hp⟩;have HP2:=Hd hp;clear hp;have HN2:=HN1;have HS2:=HS1;obtain⟨c2_00,c2_01,c2_02⟩:=HP2.out.own.tk (b:=w1.heap.size) (t:=T) (by simp);)
            | (go_at_call 241;refine(zM HE.out HP0.out HT.out).mono ?_;rintro e w1 ⟨rfl,hp⟩;have HP1:=Hd (hp.alloc (tkO T));clear hp;have HN1:=HN0;have HS1:=HS0;obtain⟨c1_00,c1_01,c1_02⟩:=HP1.out.own.tk (b:=w1.heap.size) (t:=T) (by simp);))
           go_ret;exact .ok HS8.out (Nat.le_of_lt HN8.out) ((HP8.out.drop).less (by omega))
         | false=>
           simp only[h0,h1,h2,h3,h4,if_true,if_false,Bool.false_eq_true,ite_true,ite_false]at hS;have HS0:=Hd hS.symm;have H0:=Hd h0;have H1:=Hd h1;have H2:=Hd h2;have H3:=Hd h3;have H4:=Hd h4;clear hS hT h1 h2 h3 h4;go_enter func340,ntmps340
           go_wp2_with (first
            | (go_at_call 341;refine(LP HE.out T (fun s2 h2=>Hexpr.out s2 (Nat.lt_trans HN6.out h2)) (fun s2 h2=>Hput.out s2 (Nat.lt_trans HN6.out h2)) _ _ _ HP6.out).mono ?_;rintro e w7 (⟨ps,hr,rfl,hb⟩|⟨a7,s7,hr,rfl,hn,hp⟩);(exact⟨rfl,.er (HS6.out.trans hr) hb⟩);have HS7:=Hd (HS6.out.trans hr);have HP7:=Hd hp;clear hp hr;have HN7:=Hd (Nat.lt_of_lt_of_le HN6.out hn);clear hn;obtain⟨c7_00,c7_01,c7_02⟩:=HP7.out.own.tk (b:=w1.heap.size) (t:=T) (by simp);)
            | (go_at_call 314;refine(iV HE.out HP5.out).mono ?_;rintro e w6 (⟨ps,hr,rfl,hb⟩|⟨hr,-,he,hp⟩);(exact⟨rfl,.er (zk HS5.out hr) hb⟩);have q:=zj HS5.out hr;rw[HT.out]at he;subst he;have HS6:=Hd q;have HP6:=Hd hp;clear hp hr q;have HN6:Hid (s.next<_):=Hd (Nat.lt_succ_of_le HN5.out);obtain⟨c6_00,c6_01,c6_02⟩:=HP6.out.own.tk (b:=w1.heap.size) (t:=T) (by simp);)
            | (go_at_call 320;refine(dE HE.out HP4.out _ H4.out).mono ?_;rintro e w5 ⟨rfl,hp⟩;have HP5:=Hd hp;clear hp;have HN5:=HN4;have HS5:=HS4;obtain⟨c5_00,c5_01,c5_02⟩:=HP5.out.own.tk (b:=w1.heap.size) (t:=T) (by simp);)
            | (go_at_call 320;refine(dE HE.out HP3.out _ H3.out).mono ?_;rintro e w4 ⟨rfl,hp⟩;have HP4:=Hd hp;clear hp;have HN4:=HN3;have HS4:=HS3;obtain⟨c4_00,c4_01,c4_02⟩:=HP4.out.own.tk (b:=w1.heap.size) (t:=T) (by simp);)
            | (go_at_call 320;refine(dE HE.out HP2.out _ H2.out).mono ?_;rintro e w3 ⟨rfl,hp⟩;have HP3:=Hd hp;clear hp;have HN3:=HN2;have HS3:=HS2;obtain⟨c3_00,c3_01,c3_02⟩:=HP3.out.own.tk (b:=w1.heap.size) (t:=T) (by simp);)
            | (go_at_call 320;refine(dE HE.out HP1.out _ H1.out).mono ?_;rintro e w2 ⟨rfl,hp⟩;have HP2:=Hd hp;clear hp;have HN2:=HN1;have HS2:=HS1;obtain⟨c2_00,c2_01,c2_02⟩:=HP2.out.own.tk (b:=w1.heap.size) (t:=T) (by simp);)
            | (go_at_call 241;refine(zM HE.out HP0.out HT.out).mono ?_;rintro e w1 ⟨rfl,hp⟩;have HP1:=Hd (hp.alloc (tkO T));clear hp;have HN1:=HN0;have HS1:=HS0;obtain⟨c1_00,c1_01,c1_02⟩:=HP1.out.own.tk (b:=w1.heap.size) (t:=T) (by simp);))
           go_ret;exact .ok HS7.out (Nat.le_of_lt HN7.out) ((HP7.out.drop).less (by omega))
theorem PQg.alloc{c:PC}{s:PS}{F:List (Nat×Obj)}{G:Nat→Prop}{X:World}(h:PQg c s F G X)(o:Obj):PQg c s ((X.heap.size,o)::F) G (X.alloc o):=by
 have hlt:=h.par.lt;have hb:=(Below.refl X.heap.size X).alloc nlr o;refine⟨h.par.grow hb,?_,?_,?_⟩
 ·intro p hp
  rcases List.mem_cons.1 hp with rfl|hp
  ·exact World.alloc_heap_new X o
  ·exact(hb.block p.1 (Array.getElem?_eq_some_iff.1 (h.own p hp)).1).trans (h.own p hp)
 ·intro p hp
  rcases List.mem_cons.1 hp with rfl|hp
  ·exact⟨hlt,fun e=>by have:=(h.par.mem _ e).2;simp only at this;omega⟩
  ·exact h.out p hp
 ·refine List.nodup_cons.2 ⟨fun e=>?_,h.nd⟩
  obtain⟨p,hp,e⟩:=List.mem_map.1 e;have:=(Array.getElem?_eq_some_iff.1 (h.own p hp)).1;simp only at e;omega
theorem PQg.below{c:PC}{s:PS}{F:List (Nat×Obj)}{G:Nat→Prop}{X Y:World}(h:PQg c s F G X)(hb:Below X.heap.size X Y):PQg c s F G Y:=
 ⟨h.par.grow hb,fun p hp=>(hb.block p.1 (Array.getElem?_eq_some_iff.1 (h.own p hp)).1).trans (h.own p hp),h.out,h.nd⟩
theorem PQg.turned{c:PC}{s:PS}{b:Nat}{o:Obj}{F:List (Nat×Obj)}{G:Nat→Prop}{X Y:World}(h:PQg c s ((b,o)::F) G X)(ht:Turns (fun i=>i=b) X Y):PQg c s F G Y:=by
 obtain⟨h1,h2⟩:=h.out (b,o) (List.mem_cons_self ..);have hn:=List.nodup_cons.1 h.nd;refine⟨h.par.turns ht (fun i hi e=>h2 (by subst e;exact hi)) (fun i e=>by subst e;simp only at h1;omega),fun p hp=>?_,fun p hp=>h.out p (List.mem_cons_of_mem _ hp),hn.2⟩;have h3:=h.own p (List.mem_cons_of_mem _ hp);exact(ht.block p.1 (Array.getElem?_eq_some_iff.1 h3).1 (fun e=>hn.1 (by show b∈_;rw[←e];exact List.mem_map_of_mem hp))).trans h3
theorem LF{c:PC}(he:OkC c){s:PS}{F:List (Nat×Obj)}{G:Nat→Prop}{X:World}(h:PQg c s F G X){T:Tk}(hT:zi c.E s=T) :
 Calls prog 241 #[c.ptr] X fun e Y=>e=.returned (tkA T)∧PQg c s F G Y∧StepG G X G Y:=by
 refine(QLook2 he h.par hT).mono ?_;rintro e w⟨rfl,hb⟩;exact⟨rfl,h.below hb,StepG.of_below hb (fun i hi=>(h.par.mem i hi).2)⟩
theorem NJ{c:PC}(he:OkC c){s:PS}{F:List (Nat×Obj)}{G:Nat→Prop}{X:World}(h:PQg c s F G X){T:Tk}(hT:zi c.E s=T)(hlt:s.next<c.E.toks.length) :
 Calls prog 243 #[c.ptr] X fun e Y=>e=.returned (tkA T)∧PQg c s.take F G Y∧StepG G X G Y:=by
 refine(tR he h.par hT hlt).mono ?_;rintro e w⟨rfl,hp,hs⟩;exact⟨rfl,h.step hp hs,hs⟩
def RdG(c:PC)(F:List (Nat×Obj))(G:Nat→Prop)(X:World)(s:PS)(S:PR PS)(e:Ending)(Y:World):Prop:=
 (∃pos,S=.error pos∧Thrown c.w0 pos e Y)∨(S=.ok s.take∧s.next<c.E.toks.length∧e=.returned (tkA (zi c.E s))∧PQg c s.take F G Y∧StepG G X G Y)
theorem vL{c:PC}{s:PS}{F:List (Nat×Obj)}{G:Nat→Prop}{X w2 Y:World}{o:Obj}(h:PQg c s F G X)(hs:StepG G (X.alloc o) G w2)(ht:Turns (fun i=>i=X.heap.size) w2 Y):StepG G X G Y:=by
 have hm:∀i,G i→i<X.heap.size:=fun i hi=>(h.par.mem i hi).2;have h1:Turns G X w2:=(Turns.alloc G X o).trans hs.turns;refine⟨⟨ht.os.trans h1.os,ht.tape.trans h1.tape,ht.output.trans h1.output,Nat.le_trans h1.size ht.size,fun k hk hn=>?_⟩,fun _ h=>h,fun _ h=>.inl h,fun i hi=>Nat.lt_of_lt_of_le (hm i hi) (Nat.le_trans h1.size ht.size)⟩;exact(ht.block k (Nat.lt_of_lt_of_le hk h1.size) (by omega)).trans (h1.block k hk hn)
theorem NH{c:PC}(he:OkC c){s:PS}{F:List (Nat×Obj)}{G:Nat→Prop}{X:World}(h:PQg c s F G X)(kd:Int)(hk0:kd≠0) :
 Calls prog 327 #[c.ptr,.int .u8 kd] X (RdG c F G X s (bZ c.E s kd)):=by
 have HE:=Hd he;have HP:=Hd h;clear he h;obtain⟨T,hT⟩:∃T,zi c.E s=T:=⟨_,rfl⟩
 have HLT:=Hd hT;obtain⟨k,tx,pos⟩:=T;cases ht:(k==kd)with
 | true=>
   have hlt:s.next<c.E.toks.length:=pJ hk0 (by rw[hT];exact eq_of_beq ht);have HS:Hid (bZ c.E s kd=.ok s.take):=Hd (by unfold bZ;rw[hT];simp only[ht];rfl);have hne:(k != kd)=false:=by simp[bne,ht]
   clear ht hT hk0;go_enter func327,ntmps327
   go_wp2_with (first
    | (go_at_call 241;refine(LF HE.out (HP.out.alloc tkZ) HLT.out).mono ?_;rintro e w1 ⟨rfl,hp1,hs1⟩;have HP1:=Hd hp1;have HS1:=Hd hs1;clear hp1 hs1)
    | (go_at_call 243;refine(NJ HE.out HP1.out HLT.out hlt).mono ?_;rintro e w2 ⟨rfl,hp2,hs2⟩;obtain⟨⟨z0,z1,z2⟩,zf,hzl⟩:=hp2.own.tkz (List.mem_cons_self ..);have zf0:=zf 0;have zf1:=zf 1;have zf2:=zf 2;clear zf;have HP2:=Hd hp2;have HS2:=Hd (HS1.out.trans hs2);clear hp2 hs2))
   obtain⟨Y,hY,⟨y0,y1,y2⟩,htY⟩:=rQ (.int .u8 k) (.string ⟨tx.toArray⟩) (intV pos) z0 z1 z2;rw[hY];clear hY;refine bodyPost_ret (by simp[results,results327,go_sem,loadVar,y0,y1,y2,Result.andThen];rfl) rfl ?_;exact .inr ⟨HS.out,hlt,by rw[HLT.out],HP2.out.turned htY,vL HP.out HS2.out htY⟩
 | false=>
   have HS:Hid (bZ c.E s kd=.error pos):=Hd (by unfold bZ;rw[hT];simp only[ht];rfl);have hne:(k != kd)=true:=by simp[bne,ht]
   clear ht hT hk0;go_enter func327,ntmps327
   go_wp2_with (first
    | (go_at_call 241;refine(LF HE.out (HP.out.alloc tkZ) HLT.out).mono ?_;rintro e w1 ⟨rfl,hp1,hs1⟩;have HP1:=Hd hp1;clear hp1)
    | (go_at_call 242;refine(tP HE.out HP1.out.par HLT.out).mono ?_;rintro e w2 ⟨rfl,hb2⟩))
   exact⟨rfl,.inl ⟨pos,HS.out,rfl,hb2⟩⟩
theorem NI{c:PC}(he:OkC c){s:PS}{F:List (Nat×Obj)}{G:Nat→Prop}{X:World}(h:PQg c s F G X) :
 Calls prog 314 #[c.ptr] X (RdG c F G X s (bZ c.E s 1)):=by
 have HE:=Hd he;have HP:=Hd h;clear he h;obtain⟨T,hT⟩:∃T,zi c.E s=T:=⟨_,rfl⟩
 have HLT:=Hd hT;obtain⟨k,tx,pos⟩:=T;clear hT;go_enter func314,ntmps314
 go_wp2_with (go_at_call 327;refine(NH HE.out (HP.out.alloc tkZ) 1 (by decide)).mono ?_;rintro e w2 (⟨ps,hr,rfl,hb⟩|⟨hr,hlt,he,hp2,hs2⟩);(exact⟨rfl,.inl ⟨ps,hr,rfl,hb⟩⟩);rw[HLT.out]at he;subst he;obtain⟨⟨z0,z1,z2⟩,zf,hzl⟩:=hp2.own.tkz (List.mem_cons_self ..);have zf0:=zf 0;have zf1:=zf 1;have zf2:=zf 2;clear zf;have HP2:=Hd hp2;have HS2:=Hd hs2;have HR:=Hd hr;clear hp2 hr hs2)
 obtain⟨Y,hY,⟨y0,y1,y2⟩,htY⟩:=rQ (.int .u8 k) (.string ⟨tx.toArray⟩) (intV pos) z0 z1 z2;rw[hY];clear hY;refine bodyPost_ret (by simp[results,results314,go_sem,loadVar,y0,y1,y2,Result.andThen];rfl) rfl ?_;exact .inr ⟨HR.out,hlt,by rw[HLT.out],HP2.out.turned htY,vL HP.out HS2.out htY⟩
end
end Go.Proofs.YtokdgiphdnjeoaaGreatDoor
