/- Part of a proof. -/
import Derived.Test.YtcdkdiedphhdhaaGreatDoorK03
set_option maxRecDepth 100000
set_option maxHeartbeats 8000000
set_option linter.unusedVariables false
set_option linter.unusedSimpArgs false
namespace Go.Proofs.YtcdkdiedphhdhaaGreatDoor.N
open Go
section
variable {P : Program} {ops : Array Oper} {md : Region.Mode} {Q : Exit -> Act -> World -> Prop} {J : World -> Prop} {G : List PanicEntry -> World -> Prop}
def StillP(P:Program)(ops:Array Oper)(Q:Exit->Act->World->Prop)(G:List PanicEntry->World->Prop)(J:World->Prop)(o:Oper)(a:Act)(v:Value):Prop:=StepS P ops Q G J (fun w w'=>w'=w) o a (fun _=>True) (fun u _=>u=v)
def chB(ms:List Bool)(i:Nat):Bool:=ms.getD i false
def prevC(ms:List Bool)(i:Nat):Option Nat:=((List.range i).filter (chB ms)).getLast?
def chainM(md:Region.Mode)(ops:Array Oper)(ms:List Bool):Bool:=(List.range ops.size).all fun i=>!chB ms i||match prevC ms i with|none=>true|some j=>Region.waitsFor md ops i j
theorem prevC_le{ms:List Bool}{i j:Nat}(hj:j<i)(h:chB ms j=true):∃k,prevC ms i=some k/\j<=k/\k<i/\chB ms k=true:=by
 have hm:j∈(List.range i).filter (chB ms):=List.mem_filter.2 ⟨List.mem_range.2 hj,h⟩;have ha:(List.range i).filter (chB ms)≠[]:=List.ne_nil_of_mem hm;have hl:=List.getLast_mem ha;have hs:((List.range i).filter (chB ms)).Pairwise (· < ·):=List.pairwise_lt_range.filter _;refine⟨_,List.getLast?_eq_some_getLast ha,?_,List.mem_range.1 (List.mem_filter.1 hl).1,(List.mem_filter.1 hl).2⟩;have e:=List.dropLast_concat_getLast ha;rw[<-e]at hm hs;rcases List.mem_append.1 hm with h1|h1
 .exact Nat.le_of_lt ((List.pairwise_append.1 hs).2.2 j h1 _ (by simp))
 .rw[List.mem_singleton.1 h1];exact Nat.le_refl _
def TailC(P:Program)(ops:Array Oper)(Q:Exit->Act->World->Prop)(G:List PanicEntry->World->Prop)(J:World->Prop):List Oper->List Bool->List Value->Act->World->Prop
 | [],_,_,a,w=>Q .normal a w
 | o::rest,ms,vs,a,w=>if ms.headD false then StepS P ops Q G (fun _=>True) (fun _ _=>True) o a (fun x=>x=w) (fun v w'=>(rest≠[]->J w')/\TailC P ops Q G J rest ms.tail vs.tail (a.put o.dst v) w')
   else TailC P ops Q G J rest ms.tail vs.tail (a.put o.dst (vs.headD undef)) w
theorem wpAny_end{fuel:Nat}{listed:Array Bool}{a:Act}{w:World}(hr:Region.ready md ops listed=[])(h:Q .normal a w):wpAny P md ops Q fuel listed a w:=by
 cases fuel with
 |zero=>exact⟨hr,h⟩
 |succ fuel=>exact⟨fun _=>h,fun i hi=>by rw[hr]at hi;cases hi⟩
theorem TailC.skip{l:List Oper}{ms:List Bool}{vs:List Value}{a0:Act}{vals:Nat->Value}{w:World}(hl:ops=l.toArray)(hvs:∀i,chB ms i=false->vals i=vs.getD i undef){p:Nat}:∀(d:Nat),p+d<=ops.size->(∀j,p<=j->j<p+d->chB ms j=false) ->
 TailC P ops Q G J (l.drop p) (ms.drop p) (vs.drop p) (pre ops vals a0 p) w->TailC P ops Q G J (l.drop (p+d)) (ms.drop (p+d)) (vs.drop (p+d)) (pre ops vals a0 (p+d)) w
 |0,_,_,h=>h
 | d+1,hd,hj,h=>by
   have ih:=TailC.skip hl hvs d (by omega) (fun j h1 h2=>hj j h1 (by omega)) h;have hb:l.length=ops.size:=by rw[hl];simp
   have ha:p+d<l.length:=by omega
   have e1:l.drop (p+d)=l[p+d]::l.drop (p+d+1):=List.drop_eq_getElem_cons ha;have ec:=hj (p+d) (by omega) (by omega);rw[e1]at ih;unfold TailC at ih
   have e2:(ms.drop (p+d)).headD false=false:=by
    have:=ec;unfold chB at this;simpa[List.head?_drop]using this
   have e3:(vs.drop (p+d)).headD undef=vals (p+d):=by
    rw[hvs _ ec];simp[List.head?_drop]
   rw[e2,if_neg Bool.false_ne_true,e3,List.tail_drop,List.tail_drop]at ih;have ho:ops[p+d]?=some l[p+d]:=by rw[hl];simp[ha]
   have e4:pre ops vals a0 (p+(d+1))=(pre ops vals a0 (p+d)).put l[p+d].dst (vals (p+d)):=by
    show pre ops vals a0 (p+d+1)=_
    simp only[pre,ho,Option.bind_some]
   rw[e4];exact ih
def lastT(md:Region.Mode)(ops:Array Oper):Bool:=(List.range (ops.size-1)).all fun i=>(List.range ops.size).any fun j=>decide (i<j)&&Region.waitsFor md ops j i
theorem lastT_all(h:lastT md ops=true){listed:Array Bool}(inv:Inv md ops listed){i:Nat}{o:Oper}(hi:i+1=ops.size)(ho:ops[i]?=some o)(hall:∀e∈o.after,Region.binds md e=true->listed.getD e.on false=true):∀(d j:Nat),j+d+1=ops.size->0<d->listed.getD j false=true:=by
 intro d
 induction d using Nat.strongRecOn with
 | ind d ih=>
   intro j hj hd;have h1:=List.all_eq_true.1 h j (List.mem_range.2 (by omega));obtain⟨k,hk,h2⟩:=List.any_eq_true.1 h1;simp only[Bool.and_eq_true,decide_eq_true_eq]at h2;have hf:=List.mem_range.1 hk;obtain⟨o',ha,e,he,hb,hc⟩:=Region.waitsFor_spec h2.2;by_cases hki:k=i
   .subst hki
    obtain rfl:=Option.some.inj (ha.symm.trans ho);have:=hall e he hb;rwa[hc]at this
   .have hl:=ih (ops.size-1-k) (by omega) k (by omega) (by omega)
    have:=inv.closed k o' ha hl e he hb;rwa[hc]at this
theorem wpAny_C(hok:okB md ops=true)(hsel:noSelect ops=true){l:List Oper}(hl:ops=l.toArray){ms:List Bool}(hc:chainM md ops ms=true)(hlast:lastT md ops=true)(hpos:0<ops.size)(hlc:chB ms (ops.size-1)=true)(vs:List Value)(a0:Act)(hG:Pans Q a0.defers G)
 (hstep:∀(vals:Nat->Value),(∀i,chB ms i=false->vals i=vs.getD i undef)->∀i o,chB ms i=false->ops[i]?=some o->StillP P ops Q G J o (pre ops vals a0 i) (vs.getD i undef)) :
 ∀ (fuel:Nat) (listed:Array Bool) (p:Nat) (vals:Nat->Value) (w:World),Inv md ops listed->todo ops listed<=fuel->p<=ops.size->(∀j,j<ops.size->chB ms j=true->listed.getD j false=decide (j<p))->(∀i,chB ms i=false->vals i=vs.getD i undef)->J w ->
   TailC P ops Q G J (l.drop p) (ms.drop p) (vs.drop p) (pre ops vals a0 p) w->wpAny P md ops Q fuel listed (actL ops vals a0 listed ops.size) w:=by
 have hQ:l.length=ops.size:=by rw[hl];simp
 have hu:∀(listed:Array Bool) (p:Nat) (vals:Nat->Value) (w:World),Inv md ops listed->p<=ops.size->(∀j,j<ops.size->chB ms j=true->listed.getD j false=decide (j<p))->Region.ready md ops listed=[] ->
  TailC P ops Q G J (l.drop p) (ms.drop p) (vs.drop p) (pre ops vals a0 p) w->Q .normal (actL ops vals a0 listed ops.size) w:=by
  intro listed p vals w inv hp hg hr ht;have h1:=all_listed hok inv.size hr (ops.size-1) (by omega);rw[hg _ (by omega) hlc]at h1;have hM:p=ops.size:=by have:=of_decide_eq_true h1;omega
  subst hM;rw[List.drop_eq_nil_of_le (by omega)]at ht;rw[end_act hok vals a0 inv.size hr,actL_firsts _ _ _ _ (Nat.le_refl _),Nat.min_eq_left (Nat.le_refl _)];exact ht
 intro fuel
 induction fuel with
 | zero=>
   intro listed p vals w inv hf hp hg hq hw ht
   have hr:Region.ready md ops listed=[]:=by
    rw[List.eq_nil_iff_forall_not_mem];intro i hi;obtain⟨h0,o,ho,_⟩:=mem_ready.1 hi;have:=todo_pos (listed:=listed) (Array.getElem?_eq_some_iff.1 ho).1 (getD_both h0);omega
   exact⟨hr,hu listed p vals w inv hp hg hr ht⟩
 | succ fuel ih=>
   intro listed p vals w inv hf hp hg hq hw ht;refine⟨fun hr=>hu listed p vals w inv hp hg hr ht,fun i hi=>?_⟩;obtain⟨h0,o,ho,hs⟩:=mem_ready.1 hi;have hn:=getD_both h0;have hm:=(Array.getElem?_eq_some_iff.1 ho).1;have ha:=sees hok vals a0 listed inv ho hi
   have he:actL ops vals a0 (firsts ops.size i) ops.size=pre ops vals a0 i:=by
    rw[actL_firsts _ _ _ _ (Nat.le_refl _),Nat.min_eq_left (by omega)]
   have hd:(pre ops vals a0 i).defers=a0.defers:=by rw[<-he,actL_defers]
   rw[he]at ha
   cases hci:chB ms i with
   | false=>
     refine StepS.go ho (noSelect_spec hsel ho) (by rw[hd];exact hG) (hstep vals hq i o hci ho) ha (by rw[actL_defers,hd]) (by rw[<-he,actL_size,actL_size]) ?_ hw trivial;rintro v w' hC rfl rfl;rw[<-hq i hci,<-actL_set hok vals a0 listed inv.size ho hn];have:=todo_set hm inv.size hn;refine ih _ p vals w' (inv.set hi) (by omega) hp (fun j hj hjs=>?_) hq hw ht;rw[getD_set_ne false (by rintro rfl;rw[hci]at hjs;cases hjs)];exact hg j hj hjs
   | true=>
     have hR:p<=i:=by
      have h1:=hg i hm hci;rw[hn]at h1;have hN:¬i<p:=by simpa using h1.symm
      omega
     have hE:∀j,p<=j->j<p+(i-p)->chB ms j=false:=by
      intro j h1 h2
      cases hcj:chB ms j with
      |false=>rfl
      | true=>
        exfalso;obtain⟨k,hk,hO,hP,hH⟩:=prevC_le (i:=i) (by omega) hcj;have hy:=List.all_eq_true.1 hc i (List.mem_range.2 hm);rw[hci,hk]at hy;simp only[Bool.not_true,Bool.false_or]at hy;obtain⟨o',hJ,e,he,hb,hL⟩:=Region.waitsFor_spec hy;obtain rfl:=Option.some.inj (hJ.symm.trans ho);have h2:=hs e he hb;rw[hL,hg k (by omega) hH]at h2;have:=of_decide_eq_true h2;omega
     have hx:=TailC.skip hl hq (i-p) (by omega) hE ht;rw[show p+(i-p)=i by omega]at hx
     have hI:l.drop i=o::l.drop (i+1):=by
      rw[List.drop_eq_getElem_cons (by omega)];congr 1;have:l[i]?=some o:=by rw[<-ho,hl];simp
      rw[List.getElem?_eq_getElem (by omega)]at this;exact Option.some.inj this
     rw[hI]at hx;unfold TailC at hx
     have e2:(ms.drop i).headD false=true:=by
      have:=hci;unfold chB at this;simpa[List.head?_drop]using this
     rw[e2,if_pos rfl,List.tail_drop,List.tail_drop]at hx;refine StepS.go ho (noSelect_spec hsel ho) (by rw[hd];exact hG) hx ha (by rw[actL_defers,hd]) (by rw[<-he,actL_size,actL_size]) ?_ trivial rfl;rintro v w' - - ⟨hC,hA⟩
     have e1:actL ops vals a0 listed ops.size=actL ops (fun j=>if j=i then v else vals j) a0 listed ops.size:=actL_congr _ fun j _ hlj=>by
      rw[if_neg (fun e=>by rw[e,hn]at hlj;cases hlj)]
     have e3:=actL_set hok (fun j=>if j=i then v else vals j) a0 listed inv.size ho hn;simp only[if_pos]at e3;rw[e1,<-e3];have:=todo_set hm inv.size hn
     have hB:∀k,chB ms k=false->(if k=i then v else vals k)=vs.getD k undef:=fun k hk=>by
      rw[if_neg (by rintro rfl;rw[hci]at hk;cases hk)];exact hq k hk
     have hz:∀j,j<ops.size->chB ms j=true->(listed.setIfInBounds i true).getD j false=decide (j<i+1):=fun j hj hjs=>by
      by_cases hji:i=j
      .subst hji
       rw[getD_set_self (by rw[inv.size];exact hm)];simp
      .rw[getD_set_ne false hji,hg j hj hjs]
       refine decide_eq_decide.2 ⟨fun h=>by omega,fun h=>?_⟩;rcases Nat.lt_or_ge j p with h1|h1
       .exact h1
       .have:=hE j h1 (by omega);rw[hjs]at this;cases this
     have hv:pre ops (fun j=>if j=i then v else vals j) a0 (i+1)=(pre ops vals a0 i).put o.dst v:=by
      simp only[pre,ho,if_pos,Option.bind_some];rw[pre_congr i (vals':=vals) (fun j hj=>by rw[if_neg (by omega)])]
     by_cases hrest:l.drop (i+1)=[]
     .have hh:i+1=ops.size:=by
       have:=List.drop_eq_nil_iff.1 hrest;omega
      have hF:∀j,j<ops.size->(listed.setIfInBounds i true).getD j false=true:=by
       intro j hj;by_cases hj':i=j
       .subst hj';exact getD_set_self (by rw[inv.size];exact hm)
       .exact getD_set_true (lastT_all hlast inv hh ho hs (ops.size-1-j) j (by omega) (by omega))
      have hD:Region.ready md ops (listed.setIfInBounds i true)=[]:=by
       rw[List.eq_nil_iff_forall_not_mem];intro i hi;obtain⟨h0,o2,hK,_⟩:=mem_ready.1 hi;have:=hF i (Array.getElem?_eq_some_iff.1 hK).1;rw[getD_both h0]at this;cases this
      refine wpAny_end hD ?_;rw[end_act hok _ a0 (inv.set hi).size hD,actL_firsts _ _ _ _ (Nat.le_refl _),Nat.min_eq_left (Nat.le_refl _),<-hh,hv];rw[hrest]at hA;exact hA
     .refine ih _ (i+1) _ w' (inv.set hi) (by omega) (by omega) hz hB (hC hrest) ?_
      rw[hv];exact hA
theorem zip_range{α β:Type}(f:Nat->β):∀{l:List α}(i n:Nat),i<=n->(l.take i).zip ((List.range n).map f)=(l.take i).zip ((List.range i).map f)
 | l,i,n,h=>by
   have e:(List.range i).map f=((List.range n).map f).take i:=by rw[<-List.map_take,List.take_range,Nat.min_eq_left h]
   rw[e,List.zip_eq_zip_take_min]
   conv=>rhs;rw[List.zip_eq_zip_take_min]
   simp only[List.length_take,List.length_map,List.length_range,List.take_take];congr 2<;>omega
inductive WalkC (P:Program) (ops:Array Oper) (Q:Exit->Act->World->Prop) (G:List PanicEntry->World->Prop) (J:World->Prop):List Oper->List Bool->List Value->Act->Prop
 |nil {a:Act}:WalkC P ops Q G J [] [] [] a
 |still {o:Oper}{rest:List Oper}{ms:List Bool}{vs:List Value}{v:Value}{a:Act}(h:StillP P ops Q G J o a v) (hr:WalkC P ops Q G J rest ms vs (a.put o.dst v)):WalkC P ops Q G J (o::rest) (false::ms) (v::vs) a
 |chain {o:Oper}{rest:List Oper}{ms:List Bool}{vs:List Value}{v:Value}{a:Act}(hr:∀v,WalkC P ops Q G J rest ms vs (a.put o.dst v)):WalkC P ops Q G J (o::rest) (true::ms) (v::vs) a
theorem WalkC.steps{l:List Oper}{ms:List Bool}{vs:List Value}{a:Act}(h:WalkC P ops Q G J l ms vs a):ms.length=l.length/\∀(vals:Nat->Value),(∀i,chB ms i=false->vals i=vs.getD i undef)->∀k o,chB ms k=false->l[k]?=some o ->
 StillP P ops Q G J o (((l.take k).zip ((List.range k).map vals)).foldl (fun a p=>a.put p.1.dst p.2) a) (vs.getD k undef):=by
 induction h with
 |nil=>exact⟨rfl,fun _ _ k o _ ho=>by simp at ho⟩
 | @still o rest ms vs v a hs _ ih=>
   refine⟨by simp[ih.1],fun vals hv k o' hk ho=>?_⟩
   cases k with
   | zero=>
     simp only[List.getElem?_cons_zero,Option.some.injEq]at ho;subst ho;exact hs
   | succ k=>
     have:=ih.2 (fun i=>vals (i+1)) (fun i hi=>by rw[hv (i+1) (by simpa[chB]using hi)];simp) k o' (by simpa[chB]using hk) (by simpa using ho);have e:=hv 0 (by simp[chB]);rw[List.range_succ_eq_map];simp only[List.map_cons,List.map_map,List.take_succ_cons,List.zip_cons_cons,List.foldl_cons,List.getD_cons_succ];rw[e];exact this
 | @chain o rest ms vs v a _ ih=>
   refine⟨by simp[(ih undef).1],fun vals hv k o' hk ho=>?_⟩
   cases k with
   |zero=>simp[chB]at hk
   | succ k=>
     have:=(ih (vals 0)).2 (fun i=>vals (i+1)) (fun i hi=>by rw[hv (i+1) (by simpa[chB]using hi)];simp) k o' (by simpa[chB]using hk) (by simpa using ho);rw[List.range_succ_eq_map];simp only[List.map_cons,List.map_map,List.take_succ_cons,List.zip_cons_cons,List.foldl_cons,List.getD_cons_succ];exact this
theorem region_C{id:Nat}{l:List Oper}(ms:List Bool)(vs:List Value){a:Act}{w:World}(hm:P.follows .mixedOrders=true)(hok:okB .any l.toArray=true)(hsel:noSelect l.toArray=true)
 (hc:chainM .any l.toArray ms=true)(hlast:lastT .any l.toArray=true)(hpos:decide (0<l.length)=true)(hlc:chB ms (l.length-1)=true)(G:List PanicEntry->World->Prop)(hG:Pans Q a.defers G)(J:World->Prop)(h0:J w.drew)
 (h:WalkC P l.toArray Q G J l ms vs a)(ht:TailC P l.toArray Q G J l ms vs a w.drew):(Code.region id l.toArray true).wp P Q a w:=by
 have hpos:=of_decide_eq_true hpos;obtain⟨-,hs⟩:=h.steps;refine wp_region_any hm ?_
 have key:=wpAny_C (P:=P) (Q:=Q) (J:=J) (G:=G) hok hsel rfl hc hlast (by simpa using hpos) (by simpa using hlc) vs a hG (fun vals hv i o hi ho=>by
  have e:=pre_fold l ((List.range l.length).map vals) (by simp) a i (by have:=(Array.getElem?_eq_some_iff.1 ho).1;simp at this;omega);have ha:i<l.length:=by have:=(Array.getElem?_eq_some_iff.1 ho).1;simpa using this
  have e2:pre l.toArray vals a i=pre l.toArray (fun j=>((List.range l.length).map vals).getD j undef) a i:=pre_congr i fun j hj=>by
   rw[List.getD_eq_getElem?_getD,List.getElem?_map,List.getElem?_range (by omega)];rfl
  have e3:(l.take i).zip ((List.range l.length).map vals)=(l.take i).zip ((List.range i).map vals):=by
   exact zip_range vals i _ (by omega)
  rw[e2,e,e3]
  exact hs vals hv i o hi (by simpa using ho)) l.toArray.size (Array.replicate l.toArray.size false) 0 (fun i=>vs.getD i undef) w.drew
  ⟨by simp,(fun j oj _ hl=>by rw[getD_replicate_false]at hl;cases hl)⟩ (by
   unfold todo
   exact Nat.le_trans (List.length_filter_le _ _) (by simp)) (Nat.zero_le _) (fun j hj _=>by rw[getD_replicate_false];simp) (fun _ _=>rfl) h0 (by
   simpa[pre]using ht)
 rw[actL_none _ _ _ _ (Nat.le_refl _)]at key;exact key
theorem StillP.known{o:Oper}{a:Act}{v:Value}(hw:Region.wanted o (yielded ops a.tmps)=true)(hr:∀w,J w->(execOp a.eval o).run P w=.ok (.value v) w):StillP P ops Q G J o a v:=
 StepS.known hw (fun _=>rfl) (fun w h _=>hr w h)
theorem TailC.nil{ms:List Bool}{vs:List Value}{a:Act}{w:World}(h:Q .normal a w):TailC P ops Q G J [] ms vs a w:=h
theorem TailC.still{o:Oper}{rest:List Oper}{ms:List Bool}{vs:List Value}{v:Value}{a:Act}{w:World}(h:TailC P ops Q G J rest ms vs (a.put o.dst v) w):TailC P ops Q G J (o::rest) (false::ms) (v::vs) a w:=h
theorem TailC.run{o:Oper}{rest:List Oper}{ms:List Bool}{vs:List Value}{u:Value}{a:Act}{v:Value}{w w':World}(hw:Region.wanted o (yielded ops a.tmps)=true)
 (hr:(execOp a.eval o).run P w=.ok (.value v) w')(hJ:rest≠[]->J w')(k:TailC P ops Q G J rest ms vs (a.put o.dst v) w'):TailC P ops Q G J (o::rest) (true::ms) (u::vs) a w:=
 StepS.runs hw fun x _ e=>by subst e;exact⟨v,w',hr,trivial,trivial,hJ,k⟩
theorem TailC.skips{o:Oper}{rest:List Oper}{ms:List Bool}{vs:List Value}{u:Value}{a:Act}{w w':World}(hw:Region.wanted o (yielded ops a.tmps)=true)
 (hr:(execOp a.eval o).run P w=.ok .skip w')(hJ:rest≠[]->J w')(k:TailC P ops Q G J rest ms vs (a.put o.dst undef) w'):TailC P ops Q G J (o::rest) (true::ms) (u::vs) a w:=
 .inl ⟨hw,fun x _ e=>by subst e;unfold Oper.wp;rw[hr];exact⟨undef,rfl,trivial,trivial,hJ,k⟩⟩
theorem TailC.append{o:Oper}{rest:List Oper}{ms:List Bool}{vs:List Value}{u:Value}{a:Act}{w:World}(hw:Region.wanted o (yielded ops a.tmps)=true)(s x:Operand)(t:TypeId)(hop:o.op=Op.call { callee:=Callee.builtin Builtin.append,args:=#[s,x],argTypes:=#[t,t] })
 {vs' vx v:Value}(hs:a.eval s=vs')(hx:a.eval x=vx){w':World}(hr:(Builtin.append_ #[t,t] o.type #[vs',vx]).run P w=.ok v w')(hJ:rest≠[]->J w')(k:TailC P ops Q G J rest ms vs (a.put o.dst v) w'):TailC P ops Q G J (o::rest) (true::ms) (u::vs) a w:=
 TailC.run hw (by simp[execOp,hop,resolve,invoke,builtin,hs,hx,hr,Result.andThen]) hJ k
theorem TailC.call{o:Oper}{rest:List Oper}{ms:List Bool}{vs:List Value}{u:Value}{a:Act}{f:FuncId}{args:Array Value}{w:World}(hw:Region.wanted o (yielded ops a.tmps)=true)
 (hr:(execOp a.eval o).run P w=.ok (.enter f args) w)(hc:Calls P f args w fun e w'=>(∃v,e=.returned v/\(rest≠[]->J w')/\TailC P ops Q G J rest ms vs (a.put o.dst v) w')\/(∃c,e=.panicked c/\G c w')):TailC P ops Q G J (o::rest) (true::ms) (u::vs) a w:=
 StepS.call hw (fun x _ e=>by subst e;exact hr) fun x _ e=>by
  subst e;refine hc.mono fun e w' he=>?_;rcases he with⟨v,rfl,h1,h2⟩|⟨c,rfl,h1⟩
  .exact .inl ⟨v,rfl,trivial,trivial,h1,h2⟩
  .exact .inr ⟨c,rfl,h1⟩
end
end Go.Proofs.YtcdkdiedphhdhaaGreatDoor.N
namespace Go.Proofs.YtcdkdiedphhdhaaGreatDoor.N
open Go
section
variable {P : Program} {ops : Array Oper} {md : Region.Mode} {Q : Exit -> Act -> World -> Prop} {J : Bool -> World -> Prop} {K : World -> World -> Prop} {G : List PanicEntry -> World -> Prop}
def Kd.stepE(P:Program)(ops:Array Oper)(Q:Exit->Act->World->Prop)(G:List PanicEntry->World->Prop)(J:Bool->World->Prop)(K:World->World->Prop)(ev:Bool)(pre:World->Prop)(x:Nat->Value)(o:Oper)(a:Act)(k:Kd):Prop:=
 match ev with
 |false=>(∀b,k.step P ops Q G (J b) K pre x o a)/\True
 | true=>match k with
   |.fix v=>StepS P ops Q G (fun _=>True) K o a (fun w=>J false w/\pre w) (fun u w=>J true w/\u=v)
   |.dep ds f=>StepS P ops Q G (fun _=>True) K o a (fun w=>J false w/\pre w) (fun u w=>J true w/\f (ds.map x) u w)
theorem wpAny_E(e:Nat)(hok:okB md ops=true)(hsel:noSelect ops=true){m:Nat}(hm:m<ops.size)(hsk:Region.sinkB md ops m=true)(hc:Region.chainB md ops m=true)(ks:List Kd){D:List (List Nat)}(hD:D=ks.map Kd.deps)(hdep:depsB md ops D=true)(a0:Act)(hG:Pans Q a0.defers G)
 (hst:∀i ds f,kd ks i=.dep ds f->∀l v w w',K w w'->f l v w->f l v w')
 (he:e<m)(hstep:∀x i o,i<m->ops[i]?=some o->(kd ks i).stepE P ops Q G J K (decide (i=e)) (Pre md ops ks x i) x o (actL ops (vals ks x) a0 (firsts ops.size i) ops.size))
 (hend:∀x w,J true w->(∀i,i<m->(kd ks i).Holds x i w)->wpOps P ops Q (List.range' m (ops.size-m)) (actL ops (vals ks x) a0 (firsts ops.size m) ops.size) w) :
 ∀(fuel:Nat) (listed:Array Bool) (x:Nat->Value) (w:World),HeadInv md ops m listed->todo ops listed<=fuel->J (listed.getD e false) w->(∀i,i<m->listed.getD i false=true->(kd ks i).Holds x i w)->wpAny P md ops Q fuel listed (actL ops (vals ks x) a0 listed ops.size) w:=by
 intro fuel
 induction fuel with
 | zero=>
   intro listed x w inv hf hw _;have:=todo_pos (listed:=listed) hm (getD_both (inv.tail m (Nat.le_refl _) hm));omega
 | succ fuel ih=>
   intro listed x w inv hf hw hh;by_cases hall:∀i,i<m->listed.getD i false=true
   .have hl:=head_done inv (Nat.le_of_lt hm) hall
    have hE:ops.size-m<=fuel+1:=by
     refine Nat.le_trans ?_ hf;rw[hl];unfold todo;have:List.range' m (ops.size-m)=(List.range ops.size).drop m:=by rw[List.range_eq_range',List.drop_range'];simp
     have h2:((List.range ops.size).drop m).filter (fun j=>!(firsts ops.size m).getD j false)=(List.range ops.size).drop m:=by
      rw[List.filter_eq_self];intro j hj;rw[<-this,List.mem_range'_1]at hj;rw[firsts_getD _ _ _ _ (by omega)];simp;omega
     have h3:((List.range ops.size).drop m).length=ops.size-m:=by simp
     rw[<-h3]
     conv=>lhs;rw[<-h2]
     exact(List.Sublist.filter _ (List.drop_sublist _ _)).length_le
    rw[hl];exact tail_run hok hc (ops.size-m) m (by omega) (Nat.le_refl _) (fuel+1) _ w hE (hend x w (by rw[hall e he]at hw;exact hw) fun i hi=>hh i hi (hall i hi))
   .have⟨i0,h0,hz⟩:∃i,i<m/\listed.getD i false=false:=by
     refine Classical.byContradiction fun hno=>hall fun i hi=>?_
     cases hx:listed.getD i false with
     |true=>rfl
     |false=>exact absurd ⟨i,hi,hx⟩ hno
    have ht:=tail_waits hsk hc hm inv (m-i0) i0 rfl h0 (getD_in (by rw[inv.size];omega) hz);refine⟨fun hr=>?_,fun i hi=>?_⟩
    .have:=all_listed hok inv.size hr i0 (by omega)
     rw[hz]at this;cases this
    .obtain⟨hC,o,ho,hp⟩:=mem_ready.1 hi
     have hg:=getD_both hC;have hv:=(Array.getElem?_eq_some_iff.1 ho).1;have hq:i<m:=Nat.lt_of_not_le fun h=>ht i h hi
     have hA:∀j,listed.getD j false=true->Region.waitsFor md ops j i=false:=by
      intro j hj
      cases hx:Region.waitsFor md ops j i with
      |false=>rfl
      | true=>
        obtain⟨oj,hH,e,he,hb,hy⟩:=Region.waitsFor_spec hx;have:=inv.closed j oj hH hj e he hb;rw[hy,hg]at this;cases this
     have hn:Pre md ops ks x i w:=by
      intro j hj;obtain⟨oi,hF,e,he,hb,hy⟩:=Region.waitsFor_spec hj;obtain rfl:=Option.some.inj (hF.symm.trans ho);have h1:=hp e he hb;rw[hy]at h1;exact hh j (Nat.lt_trans (waits_ne hok hj) hq) h1
     have ha:=sees hok (vals ks x) a0 listed ⟨inv.size,inv.closed⟩ ho hi;have hB:=todo_set hv inv.size hg;have hs:=hstep x i o hq ho;by_cases hie:i=e
     .subst hie
      rw[decide_eq_true rfl]at hs
      cases hk:kd ks i with
      | fix v=>
        rw[hk]at hs;refine StepS.go ho (noSelect_spec hsel ho) (by rw[actL_defers];exact hG) hs ha (by rw[actL_defers,actL_defers]) (by rw[actL_size,actL_size]) (fun u w' _ hkw ⟨hw',hu⟩=>?_) trivial ⟨by rw[hg]at hw;exact hw,hn⟩;subst hu
        have:(actL ops (vals ks x) a0 listed ops.size).put o.dst u=actL ops (vals ks x) a0 (listed.setIfInBounds i true) ops.size:=by
         rw[actL_set hok (vals ks x) a0 listed inv.size ho hg];simp[vals,hk,Kd.val]
        rw[this];refine ih _ x w' (inv.set hi hq) (by omega) (by rw[getD_set_self (by rw[inv.size];exact hv)];exact hw') fun j hj hl=>?_;by_cases hij:i=j
        .subst hij;rw[hk];trivial
        .rw[getD_set_ne false hij]at hl
         exact Kd.stable (fun ds f e=>hst j ds f e) hkw (hh j hj hl)
      | dep ds f=>
        rw[hk]at hs;refine StepS.go ho (noSelect_spec hsel ho) (by rw[actL_defers];exact hG) hs ha (by rw[actL_defers,actL_defers]) (by rw[actL_size,actL_size]) (fun u w' _ hkw ⟨hw',hu⟩=>?_) trivial ⟨by rw[hg]at hw;exact hw,hn⟩
        have hd:∀j,j≠i->vals ks x j=vals ks (fun k=>if k=i then u else x k) j:=by
         intro j hj;simp only[vals];rw[if_neg hj]
        have:(actL ops (vals ks x) a0 listed ops.size).put o.dst u=actL ops (vals ks (fun k=>if k=i then u else x k)) a0 (listed.setIfInBounds i true) ops.size:=by
         rw[actL_set hok _ a0 listed inv.size ho hg];rw[actL_congr ops.size fun j hj hl=>hd j (fun e=>by subst e;rw[hg]at hl;cases hl)];simp[vals,hk,Kd.val]
        rw[this];refine ih _ _ w' (inv.set hi hq) (by omega) (by rw[getD_set_self (by rw[inv.size];exact hv)];exact hw') fun j hj hl=>?_;by_cases hij:i=j
        .subst hij
         exact holds_new hD hok hdep hk hu
        .rw[getD_set_ne false hij]at hl
         exact holds_other hD hok hdep hij (hA j hl) (Kd.stable (fun ds f e=>hst j ds f e) hkw (hh j hj hl))
     .rw[decide_eq_false hie]at hs
      have hs:=fun ks' (h:kd ks i=ks')=>(h▸hs:ks'.stepE P ops Q G J K false (Pre md ops ks x i) x o (actL ops (vals ks x) a0 (firsts ops.size i) ops.size)).1 (listed.getD e false);have hs:=hs _ rfl
      cases hk:kd ks i with
      | fix v=>
        rw[hk]at hs;refine StepS.go ho (noSelect_spec hsel ho) (by rw[actL_defers];exact hG) hs ha (by rw[actL_defers,actL_defers]) (by rw[actL_size,actL_size]) (fun u w' hw' hkw hu=>?_) hw hn;subst hu
        have:(actL ops (vals ks x) a0 listed ops.size).put o.dst u=actL ops (vals ks x) a0 (listed.setIfInBounds i true) ops.size:=by
         rw[actL_set hok (vals ks x) a0 listed inv.size ho hg];simp[vals,hk,Kd.val]
        rw[this];refine ih _ x w' (inv.set hi hq) (by omega) (by rw[getD_set_ne false hie];exact hw') fun j hj hl=>?_;by_cases hij:i=j
        .subst hij;rw[hk];trivial
        .rw[getD_set_ne false hij]at hl
         exact Kd.stable (fun ds f e=>hst j ds f e) hkw (hh j hj hl)
      | dep ds f=>
        rw[hk]at hs;refine StepS.go ho (noSelect_spec hsel ho) (by rw[actL_defers];exact hG) hs ha (by rw[actL_defers,actL_defers]) (by rw[actL_size,actL_size]) (fun u w' hw' hkw hu=>?_) hw hn
        have hd:∀j,j≠i->vals ks x j=vals ks (fun k=>if k=i then u else x k) j:=by
         intro j hj;simp only[vals];rw[if_neg hj]
        have:(actL ops (vals ks x) a0 listed ops.size).put o.dst u=actL ops (vals ks (fun k=>if k=i then u else x k)) a0 (listed.setIfInBounds i true) ops.size:=by
         rw[actL_set hok _ a0 listed inv.size ho hg];rw[actL_congr ops.size fun j hj hl=>hd j (fun e=>by subst e;rw[hg]at hl;cases hl)];simp[vals,hk,Kd.val]
        rw[this];refine ih _ _ w' (inv.set hi hq) (by omega) (by rw[getD_set_ne false hie];exact hw') fun j hj hl=>?_;by_cases hij:i=j
        .subst hij
         exact holds_new hD hok hdep hk hu
        .rw[getD_set_ne false hij]at hl
         exact holds_other hD hok hdep hij (hA j hl) (Kd.stable (fun ds f e=>hst j ds f e) hkw (hh j hj hl))
inductive WalkE (P:Program) (ops:Array Oper) (md:Region.Mode) (Q:Exit->Act->World->Prop) (G:List PanicEntry->World->Prop) (J:Bool->World->Prop) (K:World->World->Prop) (all:List Kd) (x:Nat->Value) (e:Nat) (tail:Act->World->Prop):Nat->List Oper->List Kd->Act->Prop
 |nil {i:Nat}{a:Act}(h:∀w,J true w->(∀j,(kd all j).Holds x j w)->tail a w):WalkE P ops md Q G J K all x e tail i [] [] a
 |fix {i:Nat}{o:Oper}{rest:List Oper}{ks:List Kd}{a:Act}{v:Value}(h:Kd.stepE P ops Q G J K (decide (i=e)) (Pre md ops all x i) x o a (.fix v)) (hr:WalkE P ops md Q G J K all x e tail (i+1) rest ks (a.put o.dst v)):WalkE P ops md Q G J K all x e tail i (o::rest) (.fix v::ks) a
 |dep {i:Nat}{o:Oper}{rest:List Oper}{ks:List Kd}{a:Act}{ds:List Nat}{f:List Value->Value->World->Prop}(h:Kd.stepE P ops Q G J K (decide (i=e)) (Pre md ops all x i) x o a (.dep ds f)) (hr:WalkE P ops md Q G J K all x e tail (i+1) rest ks (a.put o.dst (x i))):WalkE P ops md Q G J K all x e tail i (o::rest) (.dep ds f::ks) a
theorem WalkE.steps{all:List Kd}{x:Nat->Value}{e:Nat}{tail:Act->World->Prop}:∀{i:Nat}{l:List Oper}{ks:List Kd}{a:Act},WalkE P ops md Q G J K all x e tail i l ks a->ks.length=l.length /\
 (∀k o,l[k]?=some o->(kd ks k).stepE P ops Q G J K (decide (i+k=e)) (Pre md ops all x (i+k)) x o (((l.take k).zip ((List.range l.length).map fun j=>vals ks (fun j=>x (i+j)) j)).foldl (fun a p=>a.put p.1.dst p.2) a)) /\
 (∀w,J true w->(∀j,(kd all j).Holds x j w)->tail ((l.zip ((List.range l.length).map fun j=>vals ks (fun j=>x (i+j)) j)).foldl (fun a p=>a.put p.1.dst p.2) a) w):=by
 intro i l ks a h
 induction h with
 |nil h=>exact⟨rfl,fun k o ho=>by simp at ho,h⟩
 | @fix i o rest ks a v hs _ ih=>
   obtain⟨h1,h2,h3⟩:=ih
   have eR:(List.range (rest.length+1)).map (fun j=>vals (Kd.fix v::ks) (fun j=>x (i+j)) j)=v::(List.range rest.length).map fun j=>vals ks (fun j=>x (i+1+j)) j:=by
    rw[List.range_succ_eq_map];simp only[List.map_cons,List.map_map];refine congrArg (List.cons _) (List.map_congr_left fun j _=>?_);simp only[Function.comp,vals,kd,List.getD_cons_succ];rw[show i+(j+1)=i+1+j by omega]
   refine⟨by simp[h1],fun k o' ho=>?_,?_⟩
   .simp only[List.length_cons,eR]
    cases k with
    | zero=>
      simp only[List.getElem?_cons_zero,Option.some.injEq]at ho;subst ho;exact hs
    | succ k=>
      have:=h2 k o' (by simpa using ho);rw[show i+1+k=i+(k+1) by omega]at this;simpa[kd]using this
   .simp only[List.length_cons,eR]
    exact h3
 | @dep i o rest ks a ds f hs _ ih=>
   obtain⟨h1,h2,h3⟩:=ih
   have eR:(List.range (rest.length+1)).map (fun j=>vals (Kd.dep ds f::ks) (fun j=>x (i+j)) j)=x i::(List.range rest.length).map fun j=>vals ks (fun j=>x (i+1+j)) j:=by
    rw[List.range_succ_eq_map];simp only[List.map_cons,List.map_map];refine congrArg (List.cons _) (List.map_congr_left fun j _=>?_);simp only[Function.comp,vals,kd,List.getD_cons_succ];rw[show i+(j+1)=i+1+j by omega]
   refine⟨by simp[h1],fun k o' ho=>?_,?_⟩
   .simp only[List.length_cons,eR]
    cases k with
    | zero=>
      simp only[List.getElem?_cons_zero,Option.some.injEq]at ho;subst ho;exact hs
    | succ k=>
      have:=h2 k o' (by simpa using ho);rw[show i+1+k=i+(k+1) by omega]at this;simpa[kd]using this
   .simp only[List.length_cons,eR]
    exact h3
theorem region_E{id:Nat}{l:List Oper}(m e:Nat){a:Act}{w:World}(hm:P.follows .mixedOrders=true)(hok:okB .any l.toArray=true)(hsel:noSelect l.toArray=true)
 (ht:decide (m<l.length)=true)(hsk:Region.sinkB .any l.toArray m=true)(hc:Region.chainB .any l.toArray m=true)(G:List PanicEntry->World->Prop)(hG:Pans Q a.defers G)(J:Bool->World->Prop)(K:World->World->Prop)(h0:J false w.drew)(he:decide (e<m)=true)
 (ks:List Kd)(D:List (List Nat))(hD:D=ks.map Kd.deps)(hdep:depsB .any l.toArray D=true)
 (hst:∀i ds f,kd ks i=.dep ds f->∀l v w w',K w w'->f l v w->f l v w')
 (h:∀x,WalkE P l.toArray .any Q G J K ks x e (fun a w=>wpList P l.toArray Q (l.drop m) a w) 0 (l.take m) ks a):(Code.region id l.toArray true).wp P Q a w:=by
 have ht:=of_decide_eq_true ht;refine wp_region_any hm ?_
 have hb:ks.length=m:=by
  obtain⟨h1,_⟩:=(h fun _=>undef).steps;rw[h1];simp;omega
 have ha:∀(x:Nat->Value) k,k<=m->pre l.toArray (vals ks x) a k=(((l.take m).take k).zip ((List.range (l.take m).length).map fun j=>vals ks (fun j=>x (0+j)) j)).foldl (fun a p=>a.put p.1.dst p.2) a:=by
  intro x k hk;have hp:=pre_fold (l.take m) ((List.range (l.take m).length).map fun j=>vals ks x j) (by simp) a k (by simp;omega);simp only[vals_zero];rw[<-hp]
  have e2:∀j,j<m->((List.range (l.take m).length).map fun j=>vals ks x j).getD j undef=vals ks x j:=by
   intro j hj;rw[List.getD_eq_getElem?_getD,List.getElem?_map,List.getElem?_range (by simp;omega)];rfl
  have e3:∀k,k<=m->pre l.toArray (vals ks x) a k=pre (l.take m).toArray (fun i=>((List.range (l.take m).length).map fun j=>vals ks x j).getD i undef) a k:=by
   intro k
   induction k with
   |zero=>intro _;rfl
   | succ k ih=>
     intro hk;simp only[pre];rw[ih (by omega),e2 k (by omega)]
     have:l.toArray[k]?=(l.take m).toArray[k]?:=by
      simp only[List.getElem?_toArray];rw[List.getElem?_take,if_pos (by omega)]
     rw[this]
  exact e3 k hk
 have key:=wpAny_E (P:=P) (Q:=Q) (G:=G) (J:=J) (K:=K) e hok hsel (m:=m) (by simp;omega) hsk hc ks hD hdep a hG hst (of_decide_eq_true he) (fun x i o hi ho=>by
  obtain⟨_,h2,_⟩:=(h x).steps;rw[actL_firsts _ _ _ _ (Nat.le_refl _),Nat.min_eq_left (by simp;omega),ha x i (by omega)];have:=h2 i o (by rw[List.getElem?_take,if_pos hi];simpa using ho)
  simpa using this) (fun x w hw hh=>by
  obtain⟨_,_,h3⟩:=(h x).steps
  rw[actL_firsts _ _ _ _ (Nat.le_refl _),Nat.min_eq_left (by simp;omega),ha x m (Nat.le_refl _),
   show l.toArray.size-m=(l.drop m).length from by simp,wpOps_eq_wpList (l.drop m) m (fun j=>by simp)]
  have:=h3 w hw (fun j=>by
   by_cases hj:j<m
   .exact hh j hj
   .have:kd ks j=.fix undef:=by
     unfold kd;rw[List.getD_eq_getElem?_getD,List.getElem?_eq_none (by omega)];rfl
    rw[this];trivial)
  rw[List.take_of_length_le (show(l.take m).length<=m by simp;omega)]
  exact this) l.toArray.size (Array.replicate l.toArray.size false) (fun _=>undef) w.drew ⟨by simp,(fun j oj _ hl=>by rw[getD_replicate_false]at hl;cases hl),fun j _ hj=>by simp only[Array.getD_eq_getD_getElem?];rw[Array.getElem?_replicate,if_pos hj];rfl⟩ (by
  unfold todo
  exact Nat.le_trans (List.length_filter_le _ _) (by simp)) (by rw[getD_replicate_false];exact h0) (fun i _ hl=>by rw[getD_replicate_false]at hl;cases hl)
 rw[actL_none _ _ _ _ (Nat.le_refl _)]at key;exact key
end
end Go.Proofs.YtcdkdiedphhdhaaGreatDoor.N
