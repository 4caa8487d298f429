/- Part of a proof. -/
import Derived.Test.YtokdgiphdnjeoaaGreatDoorQ28
set_option maxRecDepth 100000
set_option maxHeartbeats 8000000
set_option linter.unusedVariables false
set_option linter.unusedSimpArgs false
open Go.Proofs.Tryz
namespace Go.Proofs.YtokdgiphdnjeoaaGreatDoor
section
open Go Go.RowKit Go.Maps
def tabD(l:List (List UInt8×DataW Unit))(D:DataW Unit):DataW Unit:=l.foldl (fun D p=>D.put (.string p.1) p.2) D
theorem FY:∀(l:List (List UInt8×DataW Unit)) (D:DataW Unit),IsMap D→(l.map Prod.fst).Nodup→∀(x:List UInt8) (z:DataW Unit),
 (tabD l D).atKey (.string x) z=match l.find? (fun p=>p.1==x)with
  |some p=>p.2
  |none=>D.atKey (.string x) z
 | [],D,hD,hn,x,z=>rfl
 | p::l,D,hD,hn,x,z=>by
   obtain⟨h1,h2⟩:=List.nodup_cons.1 hn;have ih:=FY l (D.put (.string p.1) p.2) (bG hD _ _) h2 x z;have e:tabD (p::l) D=tabD l (D.put (.string p.1) p.2):=rfl;rw[e,ih,List.find?_cons];by_cases hx:p.1=x
   ·rw[show(p.1==x)=true by rw[hx];simp]
    have hf:l.find? (fun q=>q.1==x)=none:=by
     rw[List.find?_eq_none];intro q hq e2;exact h1 (List.mem_map.2 ⟨q,hq,(eq_of_beq e2).trans hx.symm⟩)
    rw[hf];simp only;rw[eX hD,if_pos hx.symm]
   ·rw[show(p.1==x)=false by simpa using hx]
    cases hf:l.find? (fun q=>q.1==x)with
    |some q=>rfl
    | none=>
      simp only;rw[eX hD,if_neg (fun e=>hx e.symm)]
theorem FZ:∀(l:List (List UInt8×DataW Unit)) (D:DataW Unit),IsMap D→∀(x:List UInt8),Maps.has (tabD l D) (.string x)=((l.any fun p=>p.1==x)||Maps.has D (.string x))
 | [],D,hD,x=>by simp[tabD]
 | p::l,D,hD,x=>by
   have e:tabD (p::l) D=tabD l (D.put (.string p.1) p.2):=rfl;rw[e,FZ l _ (bG hD _ _) x,List.any_cons];by_cases hx:p.1=x
   ·subst hx
    rw[has_put_same hD (show WideAt.IsKeyLit (.string p.1)from trivial)];simp
   ·rw[has_put_other (by intro e;injection e with e;exact hx e.symm),show(p.1==x)=false by simpa using hx]
    simp
def queryT:List (List UInt8×DataW Unit):=[([109,117,115,116],.lit (.int .i64 1)),([109,97,121],.lit (.int .i64 2)),([99,111,117,110,116],.lit (.int .i64 3)),([98,111,117,110,100,115],.lit (.int .i64 4)),([118,97,108,117,101,115],.lit (.int .i64 5)),([119,104,121],.lit (.int .i64 6)),([98,108,97,109,101],.lit (.int .i64 7)),([108,111,111,107],.lit (.int .i64 8))]
def pF(x:List UInt8):Nat:=if x=[99,104,111,111,115,101]then 287 else if x=[116,121,112,101]then 288 else if x=[102,117,110]then 289 else if x=[108,101,116]then 290 else if x=[111,98,115,101,114,118,101]then 291 else if x=[114,101,116,114,97,99,116]then 292 else if x=[97,115,107]then 293 else 0
def itemT:List (List UInt8×DataW Unit):=[([99,104,111,111,115,101],.ptr (.lit (.int .i64 (287:Nat)))),([116,121,112,101],.ptr (.lit (.int .i64 (288:Nat)))),([102,117,110],.ptr (.lit (.int .i64 (289:Nat)))),([108,101,116],.ptr (.lit (.int .i64 (290:Nat)))),([111,98,115,101,114,118,101],.ptr (.lit (.int .i64 (291:Nat)))),([114,101,116,114,97,99,116],.ptr (.lit (.int .i64 (292:Nat)))),([97,115,107],.ptr (.lit (.int .i64 (293:Nat))))]
theorem KK(x:List UInt8):(tabD queryT (.map [])).atKey (.string x) (.lit (.int .i64 0))=.lit (.int .i64 (fX x)):=by
 rw[FY _ _ ⟨_,rfl⟩ (by decide)];unfold fX;by_cases h0:x=[109,117,115,116]
 ·subst h0;rfl
 by_cases h1:x=[109,97,121]
 ·subst h1;rfl
 by_cases h2:x=[99,111,117,110,116]
 ·subst h2;rfl
 by_cases h3:x=[98,111,117,110,100,115]
 ·subst h3;rfl
 by_cases h4:x=[118,97,108,117,101,115]
 ·subst h4;rfl
 by_cases h5:x=[119,104,121]
 ·subst h5;rfl
 by_cases h6:x=[98,108,97,109,101]
 ·subst h6;rfl
 by_cases h7:x=[108,111,111,107]
 ·subst h7;rfl
 simp only[h0,h1,h2,h3,h4,h5,h6,h7,if_false]
 have hf:queryT.find? (fun p=>p.1==x)=none:=by
  rw[List.find?_eq_none];intro p hp;simp only[queryT,List.mem_cons,List.not_mem_nil,or_false]at hp;rcases hp with rfl|rfl|rfl|rfl|rfl|rfl|rfl|rfl
  all_goals (intro e;have e2:=(eq_of_beq e).symm;contradiction)
 rw[hf];rfl
def eD(x:List UInt8):Bool:=itemT.any fun p=>p.1==x
theorem yL(x:List UInt8):Maps.has (tabD itemT (.map [])) (.string x)=eD x:=by
 rw[FZ _ _ ⟨_,rfl⟩];unfold eD;simp[Maps.has]
theorem MI{x:List UInt8}(h:eD x=true):(tabD itemT (.map [])).atKey (.string x) .nil=.ptr (.lit (.int .i64 (pF x))):=by
 rw[FY _ _ ⟨_,rfl⟩ (by decide)];unfold pF;by_cases h0:x=[99,104,111,111,115,101]
 ·subst h0;rfl
 by_cases h1:x=[116,121,112,101]
 ·subst h1;rfl
 by_cases h2:x=[102,117,110]
 ·subst h2;rfl
 by_cases h3:x=[108,101,116]
 ·subst h3;rfl
 by_cases h4:x=[111,98,115,101,114,118,101]
 ·subst h4;rfl
 by_cases h5:x=[114,101,116,114,97,99,116]
 ·subst h5;rfl
 by_cases h6:x=[97,115,107]
 ·subst h6;rfl
 exfalso;unfold eD at h;rw[List.any_eq_true]at h;obtain⟨p,hp,e⟩:=h;simp only[itemT,List.mem_cons,List.not_mem_nil,or_false]at hp;rcases hp with rfl|rfl|rfl|rfl|rfl|rfl|rfl
 all_goals (have e2:=(eq_of_beq e).symm;contradiction)
theorem iO:prog.underlying 245=some (.map 9 249):=by kernel_rfl
theorem GQ(w:World):(zeroValue 249).run prog w=.ok .nilFunc w:=by kernel_rfl
theorem uN{X:World}{b n:Nat}(h:OwnS X b n (tabD itemT (.map []))){s:List UInt8}(hs:s.length≤1000000)(hh:eD s=true) :
 (Instr.lookup 245 (.map (some b)) (strV s) true).run prog X=.ok (.tuple #[.func (.func (pF s)) #[] #[],.bool true]) X:=by
 obtain⟨v,ps,hrun,hv⟩:=h.look_ok zE iO (GQ X) (zd:=.nil) (zp:=[]) rfl (zO hs);rw[MI hh]at hv;rw[hrun,NZ hv,yL,hh]
theorem EM{X:World}{b n:Nat}(h:OwnS X b n (tabD itemT (.map []))){s:List UInt8}(hs:s.length≤1000000)(hh:eD s=false) :
 ∃v,(Instr.lookup 245 (.map (some b)) (strV s) true).run prog X=.ok (.tuple #[v,.bool false]) X:=by
 obtain⟨v,ps,hrun,hv⟩:=h.look_ok zE iO (GQ X) (zd:=.nil) (zp:=[]) rfl (zO hs);exact⟨v,by rw[hrun,yL,hh]⟩
theorem lD{c:PC}{s:PS}{F:List (Nat×Obj)}{d:Nat}{X:World}(h:PQ c s F d X){z:Nat}(hz:X.heap.size=z) :
 Calls prog 323 #[] X fun e Y=>e=.returned (.map (some z))∧∃o,PQ c s ((z,o)::F) d Y∧∀Z:World,Z.heap[z]?=some o→∀x:List UInt8,x.length≤1000000→(Instr.lookup 92 (.map (some z)) (strV x) false).run prog Z=.ok (intV (fX x)) Z:=by
 subst hz;have HP:=Hd h;have hmm:=@run_makeMap prog;have HOW:=Hd (show OwnS (X.alloc (.map #[] 0)) X.heap.size 0 (.map [])from World.ownsMap_made X _ _ _);have HG:Hid ((X.alloc (.map #[] 0)).grownBy (X.alloc (.map #[] 0)) (some X.heap.size)):=Hd ⟨rfl,rfl,rfl,nlr,fun _ _ _=>rfl⟩;clear h;go_enter func323,ntmps323
 go_wp2_with (first
  | (refine ze _ rfl _ _ _ 92 rfl 9 3 zE iN rdV X.heap.size 7 _ rfl HOW7.out (by decide) _ _ (.string [108,111,111,107]) rfl rfl (zO (s:=[108,111,111,107]) (by decide)) (.lit (.int .i64 8)) [] rfl ?_;intro w8 ho8 hg8;have HOW8:=Hd ho8;have HG8:=Hd (zr HG7.out hg8);clear ho8 hg8)
  | (refine ze _ rfl _ _ _ 92 rfl 9 3 zE iN rdV X.heap.size 6 _ rfl HOW6.out (by decide) _ _ (.string [98,108,97,109,101]) rfl rfl (zO (s:=[98,108,97,109,101]) (by decide)) (.lit (.int .i64 7)) [] rfl ?_;intro w7 ho7 hg7;have HOW7:=Hd ho7;have HG7:=Hd (zr HG6.out hg7);clear ho7 hg7)
  | (refine ze _ rfl _ _ _ 92 rfl 9 3 zE iN rdV X.heap.size 5 _ rfl HOW5.out (by decide) _ _ (.string [119,104,121]) rfl rfl (zO (s:=[119,104,121]) (by decide)) (.lit (.int .i64 6)) [] rfl ?_;intro w6 ho6 hg6;have HOW6:=Hd ho6;have HG6:=Hd (zr HG5.out hg6);clear ho6 hg6)
  | (refine ze _ rfl _ _ _ 92 rfl 9 3 zE iN rdV X.heap.size 4 _ rfl HOW4.out (by decide) _ _ (.string [118,97,108,117,101,115]) rfl rfl (zO (s:=[118,97,108,117,101,115]) (by decide)) (.lit (.int .i64 5)) [] rfl ?_;intro w5 ho5 hg5;have HOW5:=Hd ho5;have HG5:=Hd (zr HG4.out hg5);clear ho5 hg5)
  | (refine ze _ rfl _ _ _ 92 rfl 9 3 zE iN rdV X.heap.size 3 _ rfl HOW3.out (by decide) _ _ (.string [98,111,117,110,100,115]) rfl rfl (zO (s:=[98,111,117,110,100,115]) (by decide)) (.lit (.int .i64 4)) [] rfl ?_;intro w4 ho4 hg4;have HOW4:=Hd ho4;have HG4:=Hd (zr HG3.out hg4);clear ho4 hg4)
  | (refine ze _ rfl _ _ _ 92 rfl 9 3 zE iN rdV X.heap.size 2 _ rfl HOW2.out (by decide) _ _ (.string [99,111,117,110,116]) rfl rfl (zO (s:=[99,111,117,110,116]) (by decide)) (.lit (.int .i64 3)) [] rfl ?_;intro w3 ho3 hg3;have HOW3:=Hd ho3;have HG3:=Hd (zr HG2.out hg3);clear ho3 hg3)
  | (refine ze _ rfl _ _ _ 92 rfl 9 3 zE iN rdV X.heap.size 1 _ rfl HOW1.out (by decide) _ _ (.string [109,97,121]) rfl rfl (zO (s:=[109,97,121]) (by decide)) (.lit (.int .i64 2)) [] rfl ?_;intro w2 ho2 hg2;have HOW2:=Hd ho2;have HG2:=Hd (zr HG1.out hg2);clear ho2 hg2)
  | (refine ze _ rfl _ _ _ 92 rfl 9 3 zE iN rdV X.heap.size 0 _ rfl HOW.out (by decide) _ _ (.string [109,117,115,116]) rfl rfl (zO (s:=[109,117,115,116]) (by decide)) (.lit (.int .i64 1)) [] rfl ?_;intro w1 ho1 hg1;have HOW1:=Hd ho1;have HG1:=Hd (zr HG.out hg1);clear ho1 hg1))
 go_ret;obtain⟨o,hp,hall⟩:=HP.out.map HG8.out HOW8.out;exact⟨rfl,o,hp,fun Z hZ x hx=>JZ (hall Z hZ) hx (KK x)⟩
theorem LO{c:PC}{s:PS}{F:List (Nat×Obj)}{d:Nat}{X:World}(h:PQ c s F d X){z:Nat}(hz:X.heap.size=z) :
 Calls prog 240 #[] X fun e Y=>e=.returned (.map (some z))∧∃o,PQ c s ((z,o)::F) d Y∧∀Z:World,Z.heap[z]?=some o→OwnS Z z 7 (tabD itemT (.map [])):=by
 subst hz;have HP:=Hd h;have hmm:=@run_makeMap prog;have HOW:=Hd (show OwnS (X.alloc (.map #[] 0)) X.heap.size 0 (.map [])from World.ownsMap_made X _ _ _);have HG:Hid ((X.alloc (.map #[] 0)).grownBy (X.alloc (.map #[] 0)) (some X.heap.size)):=Hd ⟨rfl,rfl,rfl,nlr,fun _ _ _=>rfl⟩;clear h;go_enter func240,ntmps240
 go_wp2_with (first
  | (refine ze _ rfl _ _ _ 245 rfl 9 249 zE iO rdV X.heap.size 6 _ rfl HOW6.out (by decide) _ _ (.string [97,115,107]) rfl rfl (zO (s:=[97,115,107]) (by decide)) (.ptr (.lit (.int .i64 (293:Nat)))) [] rfl ?_;intro w7 ho7 hg7;have HOW7:=Hd ho7;have HG7:=Hd (zr HG6.out hg7);clear ho7 hg7)
  | (refine ze _ rfl _ _ _ 245 rfl 9 249 zE iO rdV X.heap.size 5 _ rfl HOW5.out (by decide) _ _ (.string [114,101,116,114,97,99,116]) rfl rfl (zO (s:=[114,101,116,114,97,99,116]) (by decide)) (.ptr (.lit (.int .i64 (292:Nat)))) [] rfl ?_;intro w6 ho6 hg6;have HOW6:=Hd ho6;have HG6:=Hd (zr HG5.out hg6);clear ho6 hg6)
  | (refine ze _ rfl _ _ _ 245 rfl 9 249 zE iO rdV X.heap.size 4 _ rfl HOW4.out (by decide) _ _ (.string [111,98,115,101,114,118,101]) rfl rfl (zO (s:=[111,98,115,101,114,118,101]) (by decide)) (.ptr (.lit (.int .i64 (291:Nat)))) [] rfl ?_;intro w5 ho5 hg5;have HOW5:=Hd ho5;have HG5:=Hd (zr HG4.out hg5);clear ho5 hg5)
  | (refine ze _ rfl _ _ _ 245 rfl 9 249 zE iO rdV X.heap.size 3 _ rfl HOW3.out (by decide) _ _ (.string [108,101,116]) rfl rfl (zO (s:=[108,101,116]) (by decide)) (.ptr (.lit (.int .i64 (290:Nat)))) [] rfl ?_;intro w4 ho4 hg4;have HOW4:=Hd ho4;have HG4:=Hd (zr HG3.out hg4);clear ho4 hg4)
  | (refine ze _ rfl _ _ _ 245 rfl 9 249 zE iO rdV X.heap.size 2 _ rfl HOW2.out (by decide) _ _ (.string [102,117,110]) rfl rfl (zO (s:=[102,117,110]) (by decide)) (.ptr (.lit (.int .i64 (289:Nat)))) [] rfl ?_;intro w3 ho3 hg3;have HOW3:=Hd ho3;have HG3:=Hd (zr HG2.out hg3);clear ho3 hg3)
  | (refine ze _ rfl _ _ _ 245 rfl 9 249 zE iO rdV X.heap.size 1 _ rfl HOW1.out (by decide) _ _ (.string [116,121,112,101]) rfl rfl (zO (s:=[116,121,112,101]) (by decide)) (.ptr (.lit (.int .i64 (288:Nat)))) [] rfl ?_;intro w2 ho2 hg2;have HOW2:=Hd ho2;have HG2:=Hd (zr HG1.out hg2);clear ho2 hg2)
  | (refine ze _ rfl _ _ _ 245 rfl 9 249 zE iO rdV X.heap.size 0 _ rfl HOW.out (by decide) _ _ (.string [99,104,111,111,115,101]) rfl rfl (zO (s:=[99,104,111,111,115,101]) (by decide)) (.ptr (.lit (.int .i64 (287:Nat)))) [] rfl ?_;intro w1 ho1 hg1;have HOW1:=Hd ho1;have HG1:=Hd (zr HG.out hg1);clear ho1 hg1))
 go_ret;obtain⟨o,hp,hall⟩:=HP.out.map HG7.out HOW7.out;exact⟨rfl,o,hp,fun Z hZ=>hall Z hZ⟩
end
end Go.Proofs.YtokdgiphdnjeoaaGreatDoor
